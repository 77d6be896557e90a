/- A part of the proof. -/
import Derived.Test.YtgeljjfmcmbejaaGreatDoorPVw
import Derived.RangeFuncCalls
set_option linter.all false
set_option linter.deprecated false
open Go renaming setRow_other→f9,callsIn_wide→p6,wpOpIn_mono→gr
open Go.Fence renaming wide→cF
open Go.Proofs.Tryz renaming prog→aa
open Go.Region renaming wanted→dv,ready→b4
open Go.Result renaming andThen_ok→a8
open Go.Sem renaming run_bind→az,run_pure→aD
open List renaming length_cons→an,replicate→av,range→aw,cons_append→bE,length_nil→a9
open Nat renaming strongRecOn→eS,reduceEqDiff→mz,reduceLT→mC
open Option renaming none_or→eI,getD_some→bX,map_some→ef
set_option maxRecDepth 100000
set_option maxHeartbeats 4000000
namespace Go.au
variable {ts:Array TypeId}{r i id m b n:Nat}{K:Act->World->Prop}{arg:List Int->Prop}{stop:List Int->Bool}{f:FuncId}{args:List SV}{Q:Exit->Act->World->Prop}{v:Value}
section
variable {C:Cx}{s:St}{a:Act}{w w':World}{E:Env}{P:Program}{k:List KI}{all:Array Oper}{l:List Oper}{o:Oper}
abbrev V5(l:List Int):PD:=.list 1 (l.map λn=>.raw (.int .i64 n))
def JY(P:Program)(d:World)(mu:Nat->Prop)(h:Pub)(r bx:Nat)(O g:Obj)(arg:List Int->Prop)(stop:List Int->Bool):Prop:=
 ∀W G v x,Kept false mu d W->Good W G->(∀b o,h b o->G b o)->(∀o,¬G r o)->(∀o,¬G bx o)->aH W G v (V5 x)->arg x->W.heap[r]? =some O->(∃e,W.heap[bx]? =some (.cells #[.bool false] e (0,0)))->
  YieldAt cF 0 P r #[v] W λe f=>e= .returned (.bool (!stop x))/\∃a,Go.RowKit.Below W.heap.size W a/\f=if stop x then setB (a.setRow bx #[.bool true]) r g else setB a r O
def Bc.RB{x y:Operand}{d K:Nat}{O N P:Obj}{i:List Int}(hdr:C.dr=false)(ho:o.op= .call ⟨.value x,#[y],ts⟩)(hg:o.guard=none)(hd:dN s o)
  (hx:aO s x=yR r)(hy:aO s y= .pd (V5 i))(hi:arg i)(hm:s.maps=two r O d P)(L:r≠d)(hS:mO N)(hr:C.w0.heap.size<=r)(hK:s.var K=some [.pd (.raw (.bool false))])(hlt:K % 10000<9000)
  (hY:∀bx,(∀E':Env,(∀t b,C.vb0 t=some b->E'.vb t=b)->E'.vb K=bx)->JY C.P C.w0 C.mu C.G0 r bx O N arg stop)(v:∃b,C.vb0 K=some b)
  (next:Bc C all k l ((if stop i then{s.setVar K [.pd (.raw (.bool true))]with maps:=two r N d P}else s).put o.dst (.pd (.raw (.bool (!stop i)))))):Bc C all k (o::l) s:=by
 intro a w E g;have e1:a.eval x= .func (.yield r) #[] #[]:=aH.aC (w:=w) (G:=E.G) (by have:=aT g x;rw [hx]at this;exact this);have e2:aH w E.G (a.eval y) (V5 i):=by have:=aT g y;rw [hy]at this;exact this
 obtain⟨hG1,hb1,q⟩:=g.maps r (.obj O) (by simp [St.map,hm,lk]);obtain⟨b0,v⟩:=v;have J:E.vb K=b0:=g.aZ K b0 v;obtain⟨M,e,JZ,hsz,U⟩:=g.vars K _ hK
 have X:M= #[.bool false]:=by
  have h1:=hsz.2 hlt;have h2:M.getD 0 undef= .bool false:=aH.aC (w:=w) (G:=E.G) (U 0 qr).2;have h3:M.size=1:=h1;apply d6
  ·simpa using h3
  ·intro j hj1 hj2
   obtain rfl:j=0:=qk;simpa [Array.getD,h3]using h2
 obtain⟨fn,T,A,body,Q,Bd⟩:=hY b0 (λE' h=>h K b0 v) w E.G (a.eval y) i ⟨g.kept.os,g.kept.tape,g.kept.output,g.kept.size,g.kept.block,nofun⟩ g.good (λb o h=>g.g0 b o h) hG1 (by rw [<-J];exact JZ.2.1) e2 hi hb1 ⟨e,by rw [<-J,<-X];exact JZ.2.2⟩;refine wpListIn_plain hg λK' hK'=>⟨λf _=>trivial,?_⟩;rw [show cF.round=none from rfl,Oper.semAt_none]
 have hex:(execOp a.eval o).run C.P w= .ok (.round r fn T A body) w:=by
  unfold execOp;simp only [ho,resolve,e1,Deferred.ofValue,az,aD,a8,cA,ap,ax];simpa [invoke]using Q
 rw [hex,Oper.uponIn_round];refine⟨nofun,Bd.mono ?_⟩;rintro e' w' ⟨rfl,W1,hW1,rfl⟩;have g1:=g.Jt hW1 (λh=>yf) E.G (λ_ _ h=>h) (λ_ _ h=>.inl h);obtain⟨D,n,m⟩:=g1.maps r (.obj O) (by simp [St.map,hm,lk]);obtain⟨zf,u,p⟩:=g1.maps d (.obj P) (by simp only [St.map,hm,lk,ae L,a7])
 cases hs:stop i with
 |false=>
  rw [hs]at next
  simp only [b6,ba,cH]at next⊢
  have g2:=g1.setB n m D (.inl hr) O s.maps λb z H=>by
   rw [hm]at H;simp only [lk]at H
   split at H
   ·rename_i e;subst e;cases H
    exact⟨D,by simp [setB,(bm.1 n).1],m⟩
   ·split at H
    ·rename_i e;subst e;cases H
     exact⟨zf,by rw [dU (bt L)];exact u,p⟩
    ·cases H
  exact hK' _ _ (next _ _ E (aB.eY (E:=E) (s:=s) g2 (ah hd) (Rd.raw _ rfl) nofun))
 |true=>
  rw [hs]at next
  simp only [a7,bS]at next⊢
  have g2:=g1.store hK (cs':=[.pd (.raw (.bool true))]) #[.bool true] (.eq rfl) (λj hj=>by
   obtain rfl:j=0:=uu hj;exact⟨rfl,Rd.raw _ rfl⟩)
  obtain⟨as1,e1',hm1,_⟩:=g1.vars K _ hK;have q:W1.heap[E.vb K]? =some (.cells as1 e1' (0,0)):=hm1.2.2;have hne:r≠E.vb K:=λe=>by rw [<-e,n]at q;exact m _ _ _ (gm q)
  have Z:(W1.setRow (E.vb K) #[.bool true]).heap[r]? =some O:=by rw [f9 _ _ _ _ hne];exact n
  have as2:d≠E.vb K:=λe=>by rw [<-e,u]at q;exact p _ _ _ (gm q)
  have g3:=g2.setB Z m D (.inl hr) N (two r N d P) λb z H=>by
   simp only [lk]at H
   split at H
   ·rename_i e;subst e;cases H
    refine⟨D,kZ Z _,hS⟩
   ·split at H
    ·rename_i e;subst e;cases H
     exact⟨zf,by rw [dU (bt L),f9 _ _ _ _ as2];exact u,p⟩
    ·cases H
  rw [<-J];exact hK' _ _ (next _ _ E (aB.eY (E:=E) (s:={s.setVar K [.pd (.raw (.bool true))]with maps:=two r N d P}) g3 (ah hd) (Rd.raw _ rfl) nofun))
def ItX(P:Program)(f:FuncId)(K:Nat)(bs:List (Nat×Nat))(pn:List Nat)(args:List SV)(vars:List (Nat×List SV))(rows:List (Nat×Row))(arg:List Int->Prop)(stop:List Int->Bool)(Q:Bool->List (Nat×List SV)->List (Nat×Row)->Prop):Prop:=
 aF P f/\∀a w E (vals:Array Value) r d bx o g i,lk K bs=some bx->r≠d->a.heap.size<=r->mO o->mO g->mO i->
  aB (Cx.fv P a E.G (λ_ _ _=>True) bs E.rb (keys rows) pn) {St.of (yR r::args) vars rows with maps:=two r o d i} ⟨vals,[]⟩ w E->
  JY P a (Cx.fv P a E.G (λ_ _ _=>True) bs E.rb (keys rows) pn).mu E.G r bx o g arg stop->Calls P f vals w (Cj P a E.G bs E.rb (keys rows) pn r d o g i Q)
def ItX.mk{fn:Func}{c:Code}{K:Nat}{bs:List (Nat×Nat)}{pn:List Nat}{vars:List (Nat×List SV)}{rows:List (Nat×Row)}{Q:Bool->List (Nat×List SV)->List (Nat×Row)->Prop}(l:P.funcs[f]? =some fn)(n:fn.body=some c)(m:aF P f)(H:args.length+1<=fn.ntmps)
  (h:∀w G j r d bx o b i,lk K bs=some bx->r≠d->w.heap.size<=r->mO b->∀C:Cx,C=Cx.fv P w G (bodyPost P fn (Cj P w G bs j (keys rows) pn r d o b i Q)) bs j (keys rows) pn->JY P w C.mu G r bx o b arg stop->
   R C [.code c] ⟨fn.ntmps,slotsOf 0 (yR r::args),vars,rows,two r o d i,[]⟩):ItX P f K bs pn args vars rows arg stop Q:=by
 refine⟨m,λk w E vals r d bx o b i u t s x q v g p=>calls_of_wp l n ?_⟩;have:=h k E.G E.rb r d bx o b i u t s q _ rfl p _ w E ((g.Z9 (uu H)).post _);simp only [fin]at this;exact wp_mono this (λe a w h=>h)
def R.RC(L:lW k=true)(hdf:C.df=[])(hdr:C.dr=false){g:Operand}{p:Array Tmp}{A j J:Code}{caps:List Nat}{K:Nat}{aW:List (Nat×List SV)}{bH:List (Nat×Row)}{pn:List Nat}(T:List Nat){Q:Bool->List (Nat×List SV)->List (Nat×Row)->Prop}
  (Z:aO s g= .clo f caps)(hK:(keys aW).contains K=true)(hit:∀vb:Nat->Nat,(∀t b,C.vb0 t=some b->vb t=b)->ItX C.P f K ((keys aW).map λt=>(t,vb t)) pn (caps.map λt=>.aA t 0) aW bH arg stop Q)
  (hv:∀t cs,lk t aW=some cs->s.var t=some cs)(hr:∀i r,lk i bH=some r->s.row i=some r)(N:∀t,T.contains t=true->C.vb0 t=none)(hrb:∀i,oN i pn=false->C.fP i=none)
  (Bd:∀a w E fn,aB C s a w E->JY C.P w (Cx.fv C.P w E.G (λ_ _ _=>True) ((keys aW).map λt=>(t,E.vb t)) E.rb (keys bH) pn).mu E.G (w.heap.size+1) (E.vb K) (oD fn a.tmps p A j w.heap.size .ready none) (oD fn a.tmps p A j w.heap.size .done (some J)) arg stop)
  (next:∀b vars rows,Q b vars rows->((keys vars).all λt=>(keys aW).contains t||T.contains t)=true/\Dj s.row rows pn/\∀d,C.w0.heap.size<=d->R (C.oQ (kF d) C.vb0) (if b then .code J :: .inBlock id::k else k) {s.took (keys aW) (keys bH) T pn vars rows with maps:=[(d,.obj (.deferred (some [])))]}):
  R C (.code (.rangeFunc g p A j) :: .inBlock id::k) s:=by
 intro a w E G;show(Code.rangeFunc g p A j).wp C.P (fin C (.inBlock id::k)) a w;refine(wpIn_wide (n:=0)).1 (wpIn_rangeFunc λfn _=>?_);have z:a.defers=[]:=G.defers.trans hdf;have hge:a.eval g= .func (.func f) #[] (caps.map λt=>.pointer (some ⟨E.vb t,0,none⟩)).toArray:=by have:=aT G g;rw [Z]at this;simpa [Rel]using this
 obtain⟨l,H⟩:∃l,(w.alloc (.deferred (some []))).alloc (oD fn a.tmps p A j w.heap.size .ready none)=l:=⟨_,rfl⟩
 have hL1:l.heap[w.heap.size+1]? =some (oD fn a.tmps p A j w.heap.size .ready none):=by
  rw [<-H];have:=World.alloc_heap_new (w.alloc (.deferred (some []))) (oD fn a.tmps p A j w.heap.size .ready none);rwa [World.size_alloc]at this
 have hK1:l.heap[w.heap.size]? =some (.deferred (some [])):=by
  rw [<-H];exact(Go.RowKit.Below.heap_alloc _ _ _ qr).trans (World.alloc_heap_new w _)
 have hb1:Below w.heap.size w l:=by
  rw [<-H];exact(bF w _).trans ((bF (w.alloc _) _).mono qr)
 refine⟨w.heap.size+1,[kF w.heap.size],l,{target:=.fn (.func f) (caps.map λt=>.pointer (some ⟨E.vb t,0,none⟩)).toArray,args:=#[.func (.yield (w.heap.size+1)) #[] #[]]},l,f,
  #[.func (.yield (w.heap.size+1)) #[] #[]]++(caps.map λt=>.pointer (some ⟨E.vb t,0,none⟩)).toArray,l,?_,?_,λ_ _=>trivial,?_,nofun,p6.2 ?_⟩
 ·rw [<-H];exact run_enterLoop_outer _ _ _ _ _
 ·simp only [resolve,hge]
  simp [go_sem]
 ·have:=(hit E.vb (λt b h=>G.aZ t b h)).1 (#[.func (.yield (w.heap.size+1)) #[] #[]]++(caps.map λt=>Value.pointer (some ⟨E.vb t,0,none⟩)).toArray) l
  simpa [invoke]using this
 have gE:=G.oo (args:=yR (w.heap.size+1)::caps.map λt=>.aA t 0) (vals:=#[.func (.yield (w.heap.size+1)) #[] #[]]++(caps.map λt=>Value.pointer (some ⟨E.vb t,0,none⟩)).toArray) (by simp []) (λi hi=>by
  cases i with
  |zero=>exact⟨by simpa [Array.getD,Rel]using(show aH w E.G (.func (.yield (w.heap.size+1)) #[] #[]) (.raw (.func (.yield (w.heap.size+1)) #[] #[]))from Rd.raw _ rfl),nofun⟩
  |succ i=>
   simp only [an,al]at hi;have h1:i<caps.length:=qk;refine⟨?_,?_⟩
   ·simp [ag,aL,h1,Rel]
   ·simp [ag,h1]) hv hr pn rfl
 have gW:=gE.grow hb1 E.G (λ_ _ h=>h) (λ_ _ h=>.inl h);have Nz:∀b,w.heap.size<=b->∀o,¬E.G b o:=λb hb o h=>by have:=G.gw b o h;omega
 have gM:=gW.yx (two (w.heap.size+1) (oD fn a.tmps p A j w.heap.size .ready none) w.heap.size (.deferred (some []))) (λb x h=>by
  simp only [lk]at h
  split at h
  ·rename_i e;subst e;cases h
   exact⟨Nz _ qk,hL1,nofun⟩
  ·split at h
   ·rename_i e;subst e;cases h
    exact⟨Nz _ qk,hK1,nofun⟩
   ·cases h)
 refine((hit E.vb (λt b h=>G.aZ t b h)).2 w l E _ (w.heap.size+1) w.heap.size (E.vb K) _ _ _ (by rw [EP,af hK]) qk qk (oC _) (oC _) (λ_ _ _ h=>xa) gM (Bd a w E fn G)).mono ?_;rintro e M ⟨b,vars,rows,E',hQ,g',rfl,h2⟩;rw [PO]at h2;obtain⟨hG1,q,_⟩:=g'.maps (w.heap.size+1) (.obj (if b then oD fn a.tmps p A j w.heap.size .done (some J)else oD fn a.tmps p A j w.heap.size .ready none)) (by simp only [St.map,lk,a7]);obtain⟨hG2,U,P⟩:=g'.maps w.heap.size (.obj (.deferred (some []))) (by simp only [St.map,lk,ae (by omega:¬w.heap.size+1=w.heap.size),a7]);obtain⟨X,hfx,v⟩:=next b vars rows hQ
 have key:∀x,∃u,aB (C.oQ (kF w.heap.size) C.vb0) {s.took (keys aW) (keys bH) T pn vars rows with maps:=[(w.heap.size,.obj (.deferred (some [])))]} {a with defers:=[kF w.heap.size]} (setB M (w.heap.size+1) x) u:=λx=>by
  have g4:=g'.setB q (by cases b<;>exact oC _) hG1 (.inl (by show w.heap.size<=_;omega)) x [] (λb y h=>xc)
  obtain⟨u,D,_,_,hG⟩:=G.UR pn hdr hv hr g4 h2 T (λt O=>by
   have O:(keys vars).contains t=true:=O;have h3:=(aM.1 X) t (uu O);simp only [du]at h3;exact h3.imp (λx=>x) λx=>⟨x,N t x⟩) (λi h _=>hrb i h) hfx
  have g5:=D.yx [(w.heap.size,.obj (.deferred (some [])))] (λb y h=>by
   simp only [lk]at h
   split at h
   ·rename_i e;subst e;cases h
    exact⟨λo=>by rw [hG];exact hG2 o,by rw [dU qk];exact U,P⟩
   ·cases h)
  exact⟨u,g5.oQ (λt b h=>g5.aZ t b h)⟩
 have m:∀k,lW k=true->fin (C.oQ (kF w.heap.size) C.vb0) k=fin C k:=λk L=>jg (C:=C) (C2:=C.oQ (kF w.heap.size) C.vb0) rfl rfl k L
 cases b with
 |false=>
  obtain⟨u,D⟩:=key (oD fn a.tmps p A j w.heap.size .exhausted none);refine⟨none,_,run_endLoop q nofun,?_⟩;have:=v w.heap.size G.kept.size _ _ u D;simp only [b6,ba]at this;rw [m _ L]at this;show fin C k .normal {a with defers:=[kF w.heap.size]++a.defers} (setB M _ _);rw [z];exact this
 |true=>
  obtain⟨u,D⟩:=key (oD fn a.tmps p A j w.heap.size .exhausted (some J));refine⟨some J,_,run_endLoop q nofun,?_⟩;have:=v w.heap.size G.kept.size _ _ u D;simp only [a7]at this;rw [m (.code J :: .inBlock id::k) L]at this;refine wpIn_wide.2 ?_;show J.wp C.P (fin C (.inBlock id::k)) {a with defers:=[kF w.heap.size]++a.defers} (setB M _ _);rw [z];exact this
def Qr(P:Program)(f:FuncId)(args:List SV)(m:Nat)(M:jo)(Q:(Nat->Nat)->mg->List SV->List (Nat×List SV)->List (Nat×Row)->Prop):Prop:=
 aF P f/\∀w E (vals:Array Value),aB (Cx.fv P w E.G (λ_ _ _=>True) [] E.rb [] []) {St.of args [] []with maps:=[(m,.map M)]} ⟨vals,[]⟩ w E->Calls P f vals w (iG P w E.G [] E.rb [] [] Q)
def Qr.mkM{fn:Func}{c:Code}{M:jo}{Q:(Nat->Nat)->mg->List SV->List (Nat×List SV)->List (Nat×Row)->Prop}(b:P.funcs[f]? =some fn)(i:fn.body=some c)(d:aF P f)(H:args.length<=fn.ntmps)
  (h:∀w G r,R (Cx.fv P w G (bodyPostM cF 0 P fn (iG P w G [] r [] [] Q)) [] r [] []) [.code c] ⟨fn.ntmps,slotsOf 0 args,[],[],[(m,.map M)],[]⟩):Qr P f args m M Q:=by
 refine⟨d,λw E vals g=>(p6 (n:=0)).1 (callsIn_of_wp_marks b i trivial (wpIn_wide.2 ?_))⟩;have:=h w E.G E.rb _ w E ((g.Z9 H).post _);simp only [fin]at this;exact wp_mono this (λe a w h=>h)
def FnX(P:Program)(f:FuncId)(args:List SV)(rs:List PD)(H:World->Pub->Prop):Prop:=
 aF P f/\∀w G (vals:Array Value),Good w G->H w G->vals.size=args.length->(∀i,i<args.length->iR P w G (vals.getD i undef) (args.getD i .dead))->Calls P f vals w (Ez w G rs)
def Qr.toX{M:jo}{rs:List PD}{Q:QV}(h:Qr P f args m M λvb=>Q vb)(U:∀vb res xs vars rows,Q vb res xs vars rows->res= .ret/\xs=rs.map SV.pd):FnX P f args rs λw G=>MapAt w G m M:=by
 refine⟨h.1,λw G vals D X K J=>?_⟩
 let E:Env:=⟨G,λ_=>0,λ_=>none,λ_=>0⟩
 have hget:∀t,(St.of args [] []).get t=args.getD t .dead:=λt=>qR ..
 have jk:∀t,iR P w G (vals.getD t undef) (args.getD t .dead):=by
  intro t
  by_cases ht:t<args.length
  ·exact J t ht
  ·have:args.getD t .dead= .dead:=vm
   rw [this];trivial
 have N:∀t cs,(St.of args [] []).get t≠.box cs:=λt cs=>xi
 have g:aB (Cx.fv P w G (λ_ _ _=>True) [] (λ_=>none) [] []) (St.of args [] []) ⟨vals,[]⟩ w E:={
  kept:=Kept.refl _ _ _
  aV:=λt=>by simp only [St.dR,St.of,lk,Option.getD_none];trivial
  maps:=λr m h=>yi
  aZ:=λt b h=>xa
  bM:=λi p h=>xa
  bI:=λi r p h=>vn
  defers:=rfl
  size:=K
  g0:=λ_ _ h=>h
  g1:=λ_ _ h=>.inl h
  tab:=D.tab
  gw:=D.lt
  slots:=λt=>ky
  vars:=λt cs h=>vo
  rows:=λi r h=>vn
  boxes:=λt cs h=>(N t cs h).elim
  vv:=λt T cs C h=>vo
  rr:=λi i' r r' p h=>vn
  vr:=λt cs i r p h=>vo
  bb:=λt T cs C h=>(N t cs h).elim
  bv:=λt T cs C h=>(N t cs h).elim
  br:=λt cs i r p h=>(N t cs h).elim}
 have Z:=g.yx [(m,.map M)] λb x z=>by
  simp only [lk]at z
  split at z
  ·rename_i e;subst e;cases z;exact X
  ·cases z
 refine(h.2 w E vals Z).mono ?_;rintro e u ⟨res,xs,vars,rows,v,E',L,a,q,_,_⟩;obtain⟨rfl,rfl⟩:=U _ _ _ _ _ L;have H:v.size=rs.length:=by have:=a.size;simpa [St.of]using this
 have A:Keeps u E'.G u (G.new w.heap.size):=.same λb o O=>a.g1 b o O
 have l:∀j,j<rs.length->aH u (G.new w.heap.size) (v.getD j undef) (rs.getD j (.ak [])):=λj hj=>by
  have s:=a.slots j;rw [qR]at s;have e1:(rs.map SV.pd).getD j .dead= .pd (rs.getD j (.ak [])):=j5;rw [e1]at s;exact aH.keep A s
 refine⟨_,q,?_,⟨a.kept.os,a.kept.tape,a.kept.output,a.kept.size,λk A=>a.kept.block k A (by rintro(⟨t,h⟩|⟨i,p,h,_⟩)<;>cases h)⟩⟩
 match rs,H,l with
 | [d],H,l=>
  have s:=l 0 qr;have n:v.size=1:=H;rw [dc n];show aH u (G.new w.heap.size) v[0] d;simpa [Array.getD,n]using s
 | [],H,l=>exact⟨v,by rw [ew (by simp at H;simp [H])],H,l⟩
 |_::_::_,H,l=>exact⟨v,by rw [ew (by simp at H;omega)],H,l⟩
def R.Vc{xs:Array Operand}{t:Array TypeId}{rs:List PD}{b:Bool}{H:World->Pub->Prop}(j:C.dr=false)(p:FnX C.P f args rs H)(x:o.op= .call ⟨.value (.func f),xs,t⟩)(A:o.guard=none)(q:iD C.P s.var s.row (xs.toList.map (aO s)) args b)
  (z:b=true->plain rs=true)(D:dN s o)(L:∀a w E,aB C s a w E->H w (if b then lend s E else E.G))(next:R C (.ops all l::k) (s.put o.dst (eX rs))):R C (.ops all (o::l)::k) s:=by
 intro a w E g;refine wpList_plain A λK J=>?_;have n:=fJ (P:=C.P) (w:=w) p.1 a.eval o (.func f) xs t #[] x #[] rfl;unfold Oper.wp;rw [n,Oper.upon_enter];simp only [ip,mE]
 have r:∀i,i<(xs.toList.map (aO s)).length->Rel C.P w E s.row ((xs.map a.eval).getD i undef) ((xs.toList.map (aO s)).getD i .dead):=λi hi=>by
  simp only [al,Array.length_toList]at hi;have M:=aT g xs[i];simpa [aL,ag,hi]using M
 have hok:=iD.ok g q (vs:=(xs.map a.eval).toList) qr (λi hi=>by simpa [aL,ag]using r i hi);refine(p.2 w (if b then lend s E else E.G) (xs.map a.eval) ?_ (L a w E g) (by simp [<-q.length]) (λi hi=>vf)).mono ?_
 ·cases b with
  |true=>exact⟨g.Po,g.tab.keep (oW s E w)⟩
  |false=>exact g.good
 ·rintro e N ⟨v,rfl,u,G⟩
  refine J _ _ (next _ _ _ ((g.X3 j G).eY (ah D) (Am (G6 (l:=b) z (λd b o h=>?_) u)) (qN rs)));subst d;rcases h.1 with m|m
  ·exact .inl m
  ·exact .inr ⟨m,h.2⟩
def aB.Pd(g:aB C s a w E){m:jo}(hm:s.map r=some (.map m)):MapAt w (lend s E) r m:=by
 obtain⟨x,z,k,d,v,n,u⟩:=g.maps r _ hm;refine⟨λo h=>?_,z,k,d,v,λi l=>⟨(n i l).1,(n i l).2.keep (oW s E w)⟩,u⟩;rcases h with h|⟨t,A,h,e⟩|⟨i,q,p,h,H,e⟩
 ·exact x o h
 ·obtain⟨j,G,M,_⟩:=g.vars t A h
  have:=M.2.2;rw [<-e,d]at this;cases this
 ·rcases g.rows i q h with⟨f,_⟩|⟨b,D,j,f,M,_⟩
  ·rw [f]at H;cases H
  ·rw [f]at H;cases H
   have:=M.2.2;simp only at e;rw [<-e,d]at this;cases this
def RE{F:Fence}(d:∀f,F.fn f)(g:o.guard=none)(H:∀c,o.op≠.defer c)(h:(execOp a.eval o).run P w= .ok .skip w')(next:wpListIn F n P all Q l (a.put o.dst undef) w'):wpListIn F n P all Q (o::l) a w:=
 wpListIn_plain g λK b=>⟨λf _=>d f,by rw [Oper.semAt_eq _ _ _ H,h];exact b _ _ next⟩
def IM{t e:TypeId}{x y:Operand}{u:Value}(h:o.op= .store t x y)(j:a.eval x= .pointer (some ⟨b,0,none⟩))(i:a.eval y=v)(z:aP P t=1)(d:v.cells= #[v])(f:v.oneCell'=true)(k:w.heap[b]? =some (.cells #[u] e (0,0))):
  (execOp a.eval o).run P w= .ok .skip (w.setRow b #[v]):=by
 have g:=run_storeCells_at P b 0 e v.cells.toList 0 #[u] w k (by simp [d]) (by rw [d];simpa using f)
 have H:(Instr.storeAt t (.pointer (some ⟨b,0,none⟩)) v).run P w= .ok () (w.setRow b #[v]):=by
  simp only [Instr.storeAt,Instr.sureAddr,az,aD,a8,storeVar,jf (P:=P) (w:=w) (t:=t) (by rw [z];decide),z];rw [ae (by rw [d];simp)];simpa [d]using g
 unfold execOp;simp only [h,j,i,az,H,a8,aD]
def nL{F:Fence}(hi:all[i]? =some o)(b:∀f,F.fn f)(g:o.guard=none)(p:∀c,o.op≠.defer c)(H:(execOp a.eval o).run P w= .ok (.value v) w)(h:K (a.put o.dst v) w):wpOpIn F n P all Q i K a w:=by
 unfold wpOpIn;simp only [hi,dv,g,a7];exact⟨λf _=>b f,by rw [Oper.semAt_eq _ _ _ p,H];exact h⟩
def RK{vals:Array Value}(hi:all[i]? =some o)(g:o.guard=none)(p:∀c,o.op≠.defer c)(H:(execOp a.eval o).run P w= .ok (.enter f vals) w)(h:Calls P f vals w λe w'=>∃v,e= .returned v/\K (a.put o.dst v) w'):wpOpIn (cF.inRound r) n P all Q i K a w:=by
 unfold wpOpIn;simp only [hi,dv,g,a7];refine⟨λf _=>trivial,?_⟩;rw [Oper.semAt_eq _ _ _ p,H,Oper.uponIn_enter];refine⟨nofun,CallsIn.inRound r ((p6 (n:=n-1)).2 (h.mono ?_))⟩;rintro e w' ⟨v,rfl,h⟩;exact h
def as3{F:Fence}(l:b4 .any all #[false,false,false,false]=[0,1])(k:b4 .any all #[true,false,false,false]=[1])(j:b4 .any all #[false,true,false,false]=[0,2])(g:b4 .any all #[true,true,false,false]=[2])
  (f:b4 .any all #[false,true,true,false]=[0])(d:b4 .any all #[true,true,true,false]=[3])(p:b4 .any all #[true,true,true,true]=[])
  (r:wpOpIn F n P all Q 0 (wpOpIn F n P all Q 1 (wpOpIn F n P all Q 2 (wpOpIn F n P all Q 3 (Q .normal)))) a w)
  (q:wpOpIn F n P all Q 1 (λa w=>wpOpIn F n P all Q 0 (wpOpIn F n P all Q 2 (wpOpIn F n P all Q 3 (Q .normal))) a w/\wpOpIn F n P all Q 2 (wpOpIn F n P all Q 0 (wpOpIn F n P all Q 3 (Q .normal))) a w) a w):wpAnyIn F n P .any all Q 4 #[false,false,false,false] a w:=by
 have s:∀a w,wpOpIn F n P all Q 3 (Q .normal) a w->wpAnyIn F n P .any all Q 1 #[true,true,true,false] a w:=λa w h=>
  ⟨λe=>(by rw [d]at e;cases e),λi H=>by
   rw [d]at H;obtain rfl:i=3:=uu H;exact gr (λa w h=>⟨p,h⟩) h⟩
 have b:∀a w,wpOpIn F n P all Q 2 (wpOpIn F n P all Q 3 (Q .normal)) a w->wpAnyIn F n P .any all Q 2 #[true,true,false,false] a w:=λa w h=>
  ⟨λe=>(by rw [g]at e;cases e),λi H=>by
   rw [g]at H;obtain rfl:i=2:=uu H;exact gr (λa w h=>s a w h) h⟩
 have m:∀a w,wpOpIn F n P all Q 0 (wpOpIn F n P all Q 3 (Q .normal)) a w->wpAnyIn F n P .any all Q 2 #[false,true,true,false] a w:=λa w h=>
  ⟨λe=>(by rw [f]at e;cases e),λi H=>by
   rw [f]at H;obtain rfl:i=0:=uu H;exact gr (λa w h=>s a w h) h⟩
 have o:∀a w,wpOpIn F n P all Q 1 (wpOpIn F n P all Q 2 (wpOpIn F n P all Q 3 (Q .normal))) a w->wpAnyIn F n P .any all Q 3 #[true,false,false,false] a w:=λa w h=>
  ⟨λe=>(by rw [k]at e;cases e),λi H=>by
   rw [k]at H;obtain rfl:i=1:=uu H;exact gr (λa w h=>b a w h) h⟩
 refine⟨λe=>(by rw [l]at e;cases e),λi H=>?_⟩;rw [l]at H;have:i=0\/i=1:=uu H;rcases this with rfl|rfl
 ·exact gr (λa w h=>o a w h) r
 ·refine gr (λa w h=>?_) q
  refine⟨λe=>(by have e:b4 .any all #[false,true,false,false]=[]:=e;rw [j]at e;cases e),λi H=>?_⟩;have H:i∈b4 .any all #[false,true,false,false]:=H;rw [j]at H;have:i=0\/i=2:=uu H;rcases this with rfl|rfl
  ·exact gr (λa w h=>b a w h) h.1
  ·exact gr (λa w h=>m a w h) h.2
def Rp{B x5 x7 d0 d1 d2 d3:Nat}{t0 t3 f:Nat}{ad:Addr}{mv str res:Value}{i g O b:Oper}(hm:P.follows .mixedOrders=true)(h0:b4 .any #[i,g,O,b] #[false,false,false,false]=[0,1])(h1:b4 .any #[i,g,O,b] #[true,false,false,false]=[1])(h2:b4 .any #[i,g,O,b] #[false,true,false,false]=[0,2])(h3:b4 .any #[i,g,O,b] #[true,true,false,false]=[2])
  (h4:b4 .any #[i,g,O,b] #[false,true,true,false]=[0])(h5:b4 .any #[i,g,O,b] #[true,true,true,false]=[3])(h6:b4 .any #[i,g,O,b] #[true,true,true,true]=[])
  (e0:i.op= .load t0 (.tmp x5))(e1:g.op= .move (.tmp x7))(e2:O.op= .call ⟨.value (.func f),#[.tmp d1],ts⟩)(e3:b.op= .lookup t3 (.tmp d0) (.tmp d2) false)(g0:i.guard=none/\g.guard=none/\O.guard=none/\b.guard=none)(k:i.dst=some d0/\g.dst=some d1/\O.dst=some d2/\b.dst=some d3)(hd:d0<a.tmps.size/\d1<a.tmps.size/\d2<a.tmps.size/\d3<a.tmps.size)(hne:d0≠d1/\d0≠d2/\d1≠d2/\x5≠d0/\x5≠d1/\x5≠d2/\x7≠d0/\x7≠d1)
  (hk:aQ P t0=true)(hag:bT P t0=false)(he:aF P f)(p:a.eval (.tmp x5)= .pointer (some ad))(E:a.eval (.tmp x7)=v)
  (u:∀W,Go.RowKit.Below B w W->W.cell? ad=some mv)(z:∀W,Go.RowKit.Below B w W->Calls P f #[v] W λe w'=>e= .returned str/\Go.RowKit.Below B w w')(q:∀W,Go.RowKit.Below B w W->(Instr.lookup t3 mv str false).run P W= .ok res W)
  (t:∀T W,T.tmps.size=a.tmps.size->T.eval (.tmp d3)=res->(∀j,j≠d0->j≠d1->j≠d2->j≠d3->T.eval (.tmp j)=a.eval (.tmp j))->Go.RowKit.Below B w W->Q .normal T W):
  (Code.region id #[i,g,O,b] true).wpIn (cF.inRound r) 0 P Q a w:=by
 obtain⟨g0,g1,g2,g3⟩:=g0;obtain⟨k0,k1,k2,k3⟩:=k;obtain⟨n1,n2,n3,n4,n5,n6,n7,n8⟩:=hne;obtain⟨m,L,l2,l3⟩:=hd;have ev:∀(x:Act) (d:Nat) (v:Value) (j:Nat),d<x.tmps.size->(x.put (some d) v).eval (.tmp j)=if j=d then v else x.eval (.tmp j):=λx d v j h=>dF x d v j h
 have sz:∀(x:Act) (d:Nat) (v:Value),(x.put (some d) v).tmps.size=x.tmps.size:=λx d v=>ud;have l:Go.RowKit.Below B w {w with drawn:=w.drawn+1}:=⟨rfl,rfl,rfl,a3 _,λ_ _=>rfl⟩
 have U:∀D W,D.tmps.size=a.tmps.size->D.eval (.tmp d0)=mv->D.eval (.tmp d2)=str->(∀j,j≠d0->j≠d1->j≠d2->D.eval (.tmp j)=a.eval (.tmp j))->Go.RowKit.Below B w W->wpOpIn (cF.inRound r) 0 P #[i,g,O,b] Q 3 (Q .normal) D W:=λD W s M m2 m3 C=>by
  refine nL (o:=b) (v:=res) rfl (λ_=>trivial) g3 (λc h=>by rw [e3]at h;cases h) ?_ ?_
  ·unfold execOp
   simp only [e3,M,m2,az,q W C,a8,aD]
  ·rw [k3]
   refine t _ W (by rw [sz];exact s) (by rw [ev _ _ _ _ qk,af rfl]) (λj n J j2 j3=>?_) C;rw [ev _ _ _ _ qk,ae j3];exact m3 j n J j2
 have X:∀{K:Act->World->Prop} A W,A.eval (.tmp d1)=v->Go.RowKit.Below B w W->(∀N,Go.RowKit.Below B w N->K (A.put (some d2) str) N)->wpOpIn (cF.inRound r) 0 P #[i,g,O,b] Q 2 K A W:=λA W M C G=>by
  refine RK (o:=O) (f:=f) (vals:=#[v]) rfl g2 (λc h=>by rw [e2]at h;cases h) ?_ ?_
  ·have:=fJ (P:=P) (w:=W) he A.eval O (.func f) #[.tmp d1] ts #[] e2 #[] rfl
   simpa [M]using this
  ·refine(z W C).mono ?_
   rintro e w' ⟨rfl,H⟩;exact⟨str,rfl,by rw [k2];exact G w' H⟩
 have Z:∀{K:Act->World->Prop} A W,A.eval (.tmp x5)= .pointer (some ad)->Go.RowKit.Below B w W->K (A.put (some d0) mv) W->wpOpIn (cF.inRound r) 0 P #[i,g,O,b] Q 0 K A W:=λA W M C G=>
  nL (o:=i) rfl (λ_=>trivial) g0 (λc h=>by rw [e0]at h;cases h) (Om e0 M hk hag (u W C)) (by rw [k0];exact G)
 have q1:∀{K:Act->World->Prop} A W,A.eval (.tmp x7)=v->K (A.put (some d1) v) W->wpOpIn (cF.inRound r) 0 P #[i,g,O,b] Q 1 K A W:=λA W M G=>
  nL (o:=g) rfl (λ_=>trivial) g1 (λc h=>by rw [e1]at h;cases h) ((tb e1).trans (by rw [M])) (by rw [k1];exact G)
 refine wpIn_region_any hm ?_;refine as3 h0 h1 h2 h3 h4 h5 h6 ?_ ?_
 ·refine Z _ _ p l (q1 _ _ (by rw [ev _ _ _ _ m,ae n7];exact E) (X _ _ (by rw [ev _ _ _ _ (by rw [sz];exact L),af rfl]) l λN H=>U _ _ (by rw [sz,sz,sz]) ?_ ?_ (λj n J j2=>?_) H))
  ·rw [ev _ _ _ _ wl,ae n2,ev _ _ _ _ (by rw [sz];exact L),ae n1,ev _ _ _ _ m,af rfl]
  ·rw [ev _ _ _ _ wl,af rfl]
  ·rw [ev _ _ _ _ wl,ae j2,ev _ _ _ _ (by rw [sz];exact L),ae J,ev _ _ _ _ m,ae n]
 ·refine q1 _ _ E ⟨?_,?_⟩
  ·refine Z _ _ (by rw [ev _ _ _ _ L,ae n5];exact p) l (X _ _ (by rw [ev _ _ _ _ (by rw [sz];exact m),ae (bt n1),ev _ _ _ _ L,af rfl]) l λN H=>U _ _ (by rw [sz,sz,sz]) ?_ ?_ (λj n J j2=>?_) H)
   ·rw [ev _ _ _ _ wl,ae n2,ev _ _ _ _ (by rw [sz];exact m),af rfl]
   ·rw [ev _ _ _ _ wl,af rfl]
   ·rw [ev _ _ _ _ wl,ae j2,ev _ _ _ _ (by rw [sz];exact m),ae n,ev _ _ _ _ L,ae J]
  ·refine X _ _ (by rw [ev _ _ _ _ L,af rfl]) l λN H=>Z _ _ (by rw [ev _ _ _ _ (by rw [sz];exact l2),ae n6,ev _ _ _ _ L,ae n5];exact p) H (U _ _ (by rw [sz,sz,sz]) ?_ ?_ (λj n J j2=>?_) H)
   ·rw [ev _ _ _ _ (by rw [sz,sz];exact m),af rfl]
   ·rw [ev _ _ _ _ (by rw [sz,sz];exact m),ae (bt n2),ev _ _ _ _ (by rw [sz];exact l2),af rfl]
   ·rw [ev _ _ _ _ (by rw [sz,sz];exact m),ae n,ev _ _ _ _ (by rw [sz];exact l2),ae j2,ev _ _ _ _ L,ae J]
def Rt(w:World)(r:Nat)(x y:Obj):setB (setB w r x) r y=setB w r y:=by simp [setB,AI]
def XB(w:World)(h:b≠r)(x:Obj)(cs:Array Value):(setB w r x).setRow b cs=setB (w.setRow b cs) r x:=by
 simp only [setB,World.setRow]
 congr 1
 apply ir;intro k;simp only [fg,Array.getElem?_setIfInBounds,Array.size_modify]
 by_cases H:b=k
 ·subst H
  have a:r≠b:=bt h;simp [a]
 ·simp [H]
end
end Go.au
namespace Go.Proofs.Z
open Go.au
def MF(l:List (List Int))(p:(List Int)->Bool):aG aa 236 [.pd (.list 1 (l.map ints)),.fn (decides ints p l)] [I (jC p l)]:=by
 refine aG.mk Tryz.func236 λw G=>?_;refine R.bound 0 (sz:=1) (ds:=l.map ints) rfl λhl=>?_;have hl:l.length<=9223372036854775807:=xe;refine ac ?_;refine R.fam (λk:Nat=>⟨19,[(0,.pd (.list 1 (l.map ints))),(1,.fn (decides ints p l)),(7,.pd (I l.length)),(8,.pd (I k))],[],[],[],[]⟩) (λk=>k<=l.length/\(l.take k).any p=false) (λk=>l.length-k) 0 ⟨qk,qr⟩ j8 ?_;rintro k ⟨b,H⟩
 (refine aJ 60 _ _ ?_;simp only [go_sem,I])
 refine⟨λh=>?_,λh=>?_⟩
 ·have t:k<l.length:=uu h
  refine qf t ?_;refine⟨qk,?_⟩;refine R.y rfl (ah xb) (.kN 11 _ _ _ _ (B (p l[k])) rfl rfl rfl ⟨l[k],am t,rfl,rfl⟩) ?_
  (refine aJ 60 _ _ ?_;simp only [go_sem,B])
  refine⟨λa=>?_,λa=>?_⟩
  ·refine ac ?_
   refine R.dS (vc:=True) ?_ trivial;rw [mZ t H a];rfl
  ·(refine aJ 60 _ _ ?_;simp only [go_sem,wrapN (k:=k) qk])
   refine R.nZ (k+1) ⟨qk,?_⟩ va xb;rw [bh t,fk,H];simpa using a
 ·have e:¬k<l.length:=uu h
  refine ac ?_;refine R.dS (vc:=True) ?_ trivial;rw [bi qk]at H;rw [ng H];rfl
def GX(l:List (List Int))(p:(List Int)->Bool):aG aa 145 [.pd (.list 1 (l.map ints)),.fn (decides ints p l)] [B (l.any p)]:=by
 refine aG.mk Tryz.func145 λw G=>?_;refine ac ?_;refine R.lY (MF l p) rfl rfl (zc (.cons (.fn _) .nil)) qr xb ?_
 (refine aJ 40 _ _ ?_;simp only [go_sem,I])
 refine R.dS (vc:=True) ?_ trivial;rw [<-xO];rfl
end Go.Proofs.Z
namespace Go.au
variable {α:Type}{l L:List (Nat×α)}{q n v k:Nat}{e:TypeId}{f:Nat->List PD}
section
variable {C:Cx}{s:St}{all:Array Oper}{k:List KI}{o:Oper}
def gU.make{Q:List Nat}{T:List Oper}{l:List (Oper×Option Nat)}{d by' x y:Nat}{t:TypeId}{k1 k2:IntKind}{z:Value}(u:q∈Q)(hid:C.fP q=none)(a:o.op= .makeSlice t (.tmp x) (.tmp y))(v:o.guard=none)(hd:o.dst=some d)(hn:d<s.n)(r:s.get x= .pd (.raw (.int k1 n)))(p:s.get y= .pd (.raw (.int k2 n)))
  (ht:eu C.P t=some e)(hi:(C.P.info? e).map (λi=>(i.zero,i.size,i.bytes))=some (some z,1,by'))(m:z.cells= #[z])(H:z.oneCell'=true)(A:by'*n<=281474976710656)(f:n<=maxLen)
  (next:gU C all Q T k l ((s.chain q (some ⟨e,1,av n (.raw z)⟩)).put o.dst (.own q))):gU C all Q T k ((o,some q)::l) s:=
 ⟨some ⟨e,1,av n (.raw z)⟩,.own q,u,.inl rfl,λg K b j _ _ h=>
  R.Ef q hid a v hd (by rw [b];exact hn) (by show(g.get x).unbox=_;rw [j x (uX (by simp [a,Op.operands])),r];rfl) (by show(g.get y).unbox=_;rw [j y (uX (by simp [a,Op.operands])),p];rfl) ht hi m H A f (by rw [hd]at h;exact h),
  λt ht=>wg,by rw [hd];simp,next⟩
def R.V6{l:List Oper}{q O:Oper}{T d1 d2:Nat}{parts:Array (Nat×Operand)}{cs:List SV}(h1:q.op= .build T parts)(M:q.guard=none)(P:q.dst=some d1)(h2:O.op= .box T (.tmp d1))(L:O.guard=none)(N:O.dst=some d2)(u:d1<s.n/\d2<s.n)(z:C.vb0 d2=none)
  (hb:∀a w E,aB C s a w E->∃cells:Array Value,(Instr.build T (parts.map λp=>(p.1,a.eval p.2))).run C.P w= .ok (.agg cells) w/\cells.size=cs.length/\∀j,j<cs.length->(cells.getD j undef).oneCell'=true/\Rel C.P w E s.row (cells.getD j undef) (cs.getD j .dead))
  (next:R C (.ops all l::k) ((s.set d1 .dead).newVar d2 (cs.map (SV.kill d2)))):R C (.ops all (q::O::l)::k) s:=by
 intro a w E g;obtain⟨cells,H,D,d⟩:=hb a w E g;refine gX M (v:=.agg cells) (by unfold execOp;simp only [h1,az,H,a8,aD]) ?_;rw [P];have x:=g.dead (t:=d1) u.1 (.agg cells)
 have ev1:(a.put (some d1) (.agg cells)).eval (.tmp d1)= .agg cells:=by
  have:=dF a d1 (.agg cells) d1 (by rw [g.size];exact u.1);rw [af rfl]at this;exact this
 refine wpList_plain L λK hK=>?_;generalize a.put (some d1) (.agg cells)=a1 at x ev1⊢;unfold Oper.wp execOp;simp only [h2,ev1,az,Instr.box,newVar,newRow,run_newObj,a8,aD,Oper.upon_value,N];have Q:(Value.agg cells).cells=cells:=rfl;rw [Q];have g1:=x.grow (w':=w.alloc (.cells cells T)) (bF w _) E.G (λ_ _ h=>h) (λ_ _ h=>.inl h);have g2:=g1.dead (t:=d2) u.2 (.pointer (some ⟨w.heap.size,0,none⟩));have A:d2<a1.tmps.size:=by rw [x.size];exact u.2
 have hk:Keeps w E.G (w.alloc (.cells cells T)) E.G:=Keeps.of_below g.gw (bF w _) (λ_ _ h=>h);have m:Mine C E.G (w.alloc (.cells cells T)) w.heap.size cells T:=⟨.inl g.kept.size,λo ho=>w8,heap_alloc_new w _⟩
 have g3:=g2.named (b:=w.heap.size) (cs:=cs.map (SV.kill d2)) (by rw [dF a1 d2 _ d2 A,af rfl]) m (uu D) (λj e=>by
   simp only [al]at e;rw [dB _ rfl];have:=d j e;exact⟨this.1,((this.2.keep (E':={E with G:=E.G}) hk rfl rfl).kill)⟩)
  (λU n X _ f=>by have:=g.nU (t:=U) (cs:=n) X;rw [f]at this;omega)
  (λi r p hi Z f=>by have:=g.ku (i:=i) (r:=r) hi (p:=p) Z;rw [<-f]at this;omega)
  (λj n e J f=>by
   rw [St.fO,ae J]at e;have:=x.tX e;simp only at f;omega) z
 refine hK _ _ (next _ _ _ (g3.weak ⟨rfl,λj=>?_,λj cs h=>⟨cs,h,rfl,λ_ _=>.same _⟩,λ_ _ h=>h,λ_ _ h=>h,λ_=>.same _⟩));rw [St.mQ,St.mQ,St.fO]
 split
 ·exact .same _
 ·exact .same _
end
def tl(B n:Nat)(e:TypeId)(f:Nat->List PD):List (Nat×Row):=(aw n).map λv=>(B+v,⟨e,1,f v⟩)
def sZ(B n:Nat):List SV:=(aw n).map λv=>SV.own (B+v)
def yD(n:Nat)(f:Nat->List PD):List PD:=(aw n).map λv=>PD.list 1 (f v)
def uO{α:Type}(f:Nat->α)(t:Nat)(x:α):Nat->α:=λj=>if j=t then x else f j
def Ru(n:Nat)(f:Nat->List PD):(yD n f).length=n:=by simp [yD]
def xZ(B n:Nat):(sZ B n).length=n:=by simp [sZ]
def Qs(B n:Nat)(e:TypeId)(f:Nat->List PD):tl B (n+1) e f=tl B n e f++[(B+n,⟨e,1,f n⟩)]:=by simp [tl,fz]
def Ui(B:Nat)(e:TypeId)(f:Nat->List PD)(i:Nat):∀n,lk i (tl B n e f)=if B<=i/\i<B+n then some ⟨e,1,f (i-B)⟩else none
 |0=>by rw [ae qk];rfl
 |n+1=>by
  rw [Qs,qO,Ui B e f i n]
  by_cases h:B<=i/\i<B+n
  ·rw [af h,af qk];rfl
  ·rw [ae h,eI,lk]
   by_cases H:B+n=i
   ·subst H;simp
   ·rw [ae H,ae qk];rfl
def iP{B:Nat}(h:v<n):lk (B+v) (tl B n e f)=some ⟨e,1,f v⟩:=by
 rw [Ui,af qk];simp
def Pe{x:α}(h:lk k l=none):up k x (l++L)=l++up k x L:=by
 induction l with
 |nil=>rfl
 |cons p l i=>
  obtain⟨j,y⟩:=p;simp only [lk]at h
  split at h
  ·cases h
  ·rename_i H;rw [bE,up,ae H,i h];rfl
def Pf{x y:α}(h:lk k l=some y):up k x (l++L)=up k x l++L:=by
 induction l with
 |nil=>cases h
 |cons p l i=>
  obtain⟨j,z⟩:=p;simp only [lk]at h
  by_cases c:j=k
  ·simp [up,c]
  ·rw [ae c]at h;rw [bE,up,ae c,up,ae c,i h];rfl
def MG{B:Nat}{g:Nat->List PD}(h:∀v,v<n->f v=g v):tl B n e f=tl B n e g:=
 c8 λv H=>by rw [h v (cd.1 H)]
def Ov{B v:Nat}{e:TypeId}{f:Nat->List PD}{ds:List PD}:∀{n:Nat},v<n->up (B+v) ⟨e,1,ds⟩ (tl B n e f)=tl B n e (uO f v ds)
 |0,h=>absurd h (Nat.not_lt_zero _)
 |n+1,h=>by
  rw [Qs,Qs]
  by_cases c:v=n
  ·subst c
   rw [Pe (by rw [Ui,ae qk]),MG (g:=uO f v ds) (λj H=>by rw [uO,ae qk])];simp [up,uO]
  ·rw [Pf (iP qk),Ov qk,show uO f v ds n=f n from ae (bt c)]
def YI{s:St}:∀{l:List (Nat×Row)},(∀p∈l,s.row p.1=some p.2)->KF s l
 | [],_=>trivial
 |p::l,h=>⟨h p bk,YI λq H=>h q (b3 _ H)⟩
def IN{l:List (Nat×Row)}{B i:Nat}(h:∀p∈l,p.1<B)(hi:B<=i):lk i l=none:=by
 induction l with
 |nil=>rfl
 |cons p l a=>
  obtain⟨j,y⟩:=p;have:=h _ bk;rw [lk,ae (by simp only at this;omega)];exact a λq H=>h q (b3 _ H)
def yS{s:St}{B:Nat}(h:∀v,v<n->lk (B+v) s.rows=some ⟨e,1,f v⟩):KF s (tl B n e f):=YI λp H=>by
 simp only [tl,aq,cd]at H;obtain⟨v,a,rfl⟩:=H;exact h v a
def Rw(f:Nat->α)(t:Nat):uO f t (f t)=f:=funext λj=>by
 simp only [uO];split
 ·rename_i h;rw [h]
 ·rfl
def MH{B:Nat}(h:v<n):(sZ B n).getD v .dead= .own (B+v):=by simp [sZ,h]
def V7{B:Nat}(h:v<n){l:List SV}(b:l=sZ B n\/l=(sZ B n).map (SV.aK (B+v))):l.take v++[SV.own (B+v)]++l.drop (v+1)=sZ B n:=by
 have H:l.length=n:=by rcases b with rfl|rfl<;>simp [sZ]
 have t:v<(l.take v++[SV.own (B+v)]++l.drop (v+1)).length:=qz;apply cJ
 ·simp [sZ];omega
 ·intro j g f
  have d:j<n:=by simpa [sZ]using f
  have r:(sZ B n)[j]= .own (B+j):=by simp [sZ]
  have x:∀(a:j<l.length),j≠v->l[j]= .own (B+j):=λa e=>by
   rcases b with rfl|rfl
   ·exact r
   ·simp only [ei,r,SV.aK];rw [ae qk]
  rw [r];rcases ll j v with c|c|c
  ·rw [ik qz,ik qz,li]
   exact x _ qk
  ·subst c
   rw [ik qz,pG qz];simp [H,nq (Nat.le_of_lt d)]
  ·rw [pG qz,lj]
   have E:v+1+(j-(l.take v++[SV.own (B+v)]).length)=j:=qz;simp only [E];exact x _ qk
def MI{s:St}(h:(s.slots.all λp=>match p.2 with| .box _=>false|_=>true)=true)(t:Nat)(cs:List Value):s.get t≠.box cs:=by
 intro e;unfold St.get at e
 have:∀l:List (Nat×SV),(l.all λp=>match p.2 with| .box _=>false|_=>true)=true->(lk t l).getD .dead≠.box cs:=by
  intro l
  induction l with
  |nil=>intro _ h;cases h
  |cons p l i=>
   intro a H;simp only [List.all_cons,bj]at a;simp only [lk]at H
   split at H
   ·simp only [bX]at H
    rw [H]at a;cases a.1
   ·exact i a.2 H
 exact this _ h e
def HP(q:Nat)(x:SV):(x.aK q).aK q=x.aK q:=by
 induction x with
 |own i=>simp only [SV.aK];split<;>simp_all [SV.aK]
 |dP i _ _=>simp only [SV.aK];split<;>simp_all [SV.aK]
 |view i _=>simp only [SV.aK];split<;>simp_all [SV.aK]
 |gd c v h=>simp only [SV.aK,h]
 |gV c v h=>simp only [SV.aK,h]
 |_=>rfl
def Rr(q:Nat)(x:SV):(x.aK q).aY [q]=x.aK q:=by
 induction x with
 |own i=>simp only [SV.aK];split<;>simp_all [SV.aY]
 |dP i _ _=>simp only [SV.aK];split<;>simp_all [SV.aY]
 |view i _=>simp only [SV.aK];split<;>simp_all [SV.aY]
 |gd c v h=>simp only [SV.aK,SV.aY,h]
 |gV c v h=>simp only [SV.aK,SV.aY,h]
 |_=>rfl
def Iw(q:Nat)(l:List SV):(l.map (SV.aK q)).map (SV.aK q)=l.map (SV.aK q):=by
 rw [cr];exact c8 λx _=>HP q x
def Ox(q:Nat)(l:List SV):(l.map (SV.aK q)).map (SV.aY [q])=l.map (SV.aK q):=by
 rw [cr];exact c8 λx _=>Rr q x
def SV.nest(q K n B:Nat):SV->SV
 | .own i=>if i=q then .nT K n else if B<=i then .dead else .own i
 | .dP i k o=>if i=q\/B<=i then .dead else .dP i k o
 | .view i k=>if i=q\/B<=i then .dead else .view i k
 | .aA t o=>if t=K then .dead else .aA t o
 | .nT t m=>if t=K then .dead else .nT t m
 | .clo f T=>if T.contains K then .dead else .clo f T
 | .gd c v=>.gd c (v.nest q K n B)
 | .gV t v=>.gV t (v.nest q K n B)
 |v=>v
def St.nest(s:St)(q K n B:Nat)(e:TypeId):St:=
 {s with slots:=s.slots.map λp=>(p.1,p.2.nest q K n B),vars:=(K,sZ B n)::s.vars.map (λp=>(p.1,p.2.map (SV.nest q K n B))),rows:=er q s.rows++tl B n e λ_=>[],gs:=s.gs.map λp=>(p.1,p.2.nest q K n B)}
def SV.HQ(q K n B:Nat)(v:SV)(cs:List Value)(h:v.nest q K n B= .box cs):v= .box cs:=by
 cases v<;>simp only [SV.nest]at h<;>first|exact h|cases h|(split at h<;>first|cases h|(split at h<;>cases h))
section
variable {C:Cx}{s:St}{a:Act}{w:World}{E:Env}{k:List KI}
def aB.nest(g:aB C s a w E){K B:Nat}{r:Row}(hr:s.row q=some r)(hn:r.ds≠[])(hsz:r.sz=1)(hz:∀j,j<r.ds.length->r.ds.getD j (.ak [])= .raw (.slice none 0 0))
  (hK:s.var K=none)(hK0:C.vb0 K=none)(hK9:9000<=K % 10000)(hB:∀i,B<=i->s.row i=none/\C.fP i=none)(hqB:q<B):∃E',aB C (s.nest q K r.ds.length B e) a w E':=by
 rcases g.rows q r hr with⟨_,h⟩|⟨b,X,cur,h1,m,h2,h3,h4,h5,h6⟩
 ·exact(hn h).elim
 have hpos:0<r.ds.length:=mT.2 hn;rw [hsz,cQ]at h2
 have L:∀i k,(s.nest q K r.ds.length B e).row i=some k->(i<B/\i≠q/\s.row i=some k)\/(B<=i/\i<B+r.ds.length/\k=⟨e,1,[]⟩):=by
  intro i k h;simp only [St.row,St.nest,qO,TJ,Ui]at h
  by_cases c:B<=i
  ·rw [show lk i s.rows=none from(hB i c).1,ia,eI]at h
   split at h
   ·rename_i c2;cases h;exact .inr ⟨c,c2.2,rfl⟩
   ·cases h
  ·rw [show(if B<=i/\i<B+r.ds.length then some (⟨e,1,[]⟩:Row)else none)=none from ae (λh=>c h.1),Option.or_none]at h
   split at h
   ·cases h
   ·rename_i H;exact .inl ⟨qk,H,h⟩
 have J:∀t P,(s.nest q K r.ds.length B e).var t=some P->(t=K/\P=sZ B r.ds.length)\/(t≠K/\∃c0,s.var t=some c0/\P=c0.map (SV.nest q K r.ds.length B)):=by
  intro t P h;simp only [St.var,St.nest,lk,dh]at h
  split at h
  ·rename_i U;cases h;exact .inl ⟨U.symm,rfl⟩
  ·rename_i H
   cases O:lk t s.vars with
   |none=>rw [O]at h;cases h
   |some c0=>rw [O]at h;cases h;exact .inr ⟨λU=>H U.symm,c0,O,rfl⟩
 have hget:∀t,(s.nest q K r.ds.length B e).get t=(s.get t).nest q K r.ds.length B:=λt=>by
  simp only [St.get,St.nest,dh];cases lk t s.slots<;>rfl
 have Nw:∀t,(s.nest q K r.ds.length B e).dR t=(s.dR t).nest q K r.ds.length B:=λt=>by
  simp only [St.dR,St.nest,dh];cases lk t s.gs<;>rfl
 have D:∀t P,(s.nest q K r.ds.length B e).get t= .box P->s.get t= .box P:=λt P h=>by rw [hget]at h;exact SV.HQ _ _ _ _ _ _ h
 let z:Env:=⟨E.G,λj=>if j=K then b else E.vb j,λi=>if B<=i then none else E.rb i,E.bx⟩
 have A:∀{id:Nat} {x:Option (Nat×Nat)},¬B<=id->E.rb id=x->z.rb id=x:=λh l=>by simp only [z,ae h,l]
 have Q:∀v x,Rel C.P w E s.row v x->Rel C.P w z (s.nest q K r.ds.length B e).row v (x.nest q K r.ds.length B):=by
  intro v x
  induction x generalizing v with
  |own id=>
   intro h;simp only [SV.nest]
   split
   ·rename_i U;subst U
    rcases h r hr with⟨N,_⟩|⟨b',n,N,rfl⟩
    ·rw [h1]at N;cases N
    ·rw [h1]at N;cases N
     exact⟨X,h3,h4,by simp [z]⟩
   ·split
    ·trivial
    ·rename_i c2
     intro k l;rcases L id k l with⟨_,_,l⟩|⟨l,_⟩
     ·rcases h k l with⟨N,rfl⟩|⟨b',n,N,rfl⟩
      ·exact .inl ⟨A c2 N,rfl⟩
      ·exact .inr ⟨b',n,A c2 N,rfl⟩
     ·exact(c2 l).elim
  |dP id i off=>
   intro h;simp only [SV.nest]
   split
   ·trivial
   ·rename_i c
    intro k l;rcases L id k l with⟨_,_,l⟩|⟨l,_⟩
    ·obtain⟨b',n,N,h8⟩:=h k l
     exact⟨b',n,A (λh=>c (.inr h)) N,h8⟩
    ·exact(c (.inr l)).elim
  |view id i=>
   intro h;simp only [SV.nest]
   split
   ·trivial
   ·rename_i c
    intro k l;rcases L id k l with⟨_,_,l⟩|⟨l,_⟩
    ·obtain⟨h7,b',n,N,h8⟩:=h k l
     exact⟨h7,b',n,A (λh=>c (.inr h)) N,h8⟩
    ·exact(c (.inr l)).elim
  |aA t o=>
   intro h;simp only [SV.nest]
   split
   ·trivial
   ·rename_i c;simp only [Rel,z,ae c];exact h
  |nT t o=>
   intro h;simp only [SV.nest]
   split
   ·trivial
   ·rename_i c;simp only [Rel,z,ae c];exact h
  |clo f ts=>
   intro h;simp only [SV.nest]
   split
   ·trivial
   ·rename_i c
    simp only [Rel,z]at h⊢;rw [h]
    congr 2
    refine c8 λt ht=>?_;rw [ae (λU:t=K=>c (by rw [<-U];simpa using ht))]
  |gd c x ih=>exactλh hc=>ih _ (h hc)
  |gV t x ih=>rintro⟨u,U,h⟩;exact⟨u,U,ih _ h⟩
  |dead=>exactλ_=>trivial
  |pd d=>exactλh=>h
  |ref d o=>exactλh=>h
  |tpl ds=>exactλh=>h
  |fn F=>exactλh=>h
  |box _=>exactλ_=>trivial
 have M:∀i k p,(s.nest q K r.ds.length B e).row i=some k->z.rb i=some p->i≠q/\s.row i=some k/\E.rb i=some p:=λi k p h T=>by
  rcases L i k h with⟨c1,c2,c3⟩|⟨c1,_⟩
  ·exact⟨c2,c3,by simpa only [z,ae (show¬B<=i by omega)]using T⟩
  ·simp only [z,af c1]at T;cases T
 refine⟨z,?_⟩
 exact{
  kept:=g.kept
  defers:=g.defers
  size:=g.size
  g0:=g.g0
  g1:=g.g1
  gw:=g.gw
  tab:=g.tab
  slots:=λt=>by rw [hget];exact Q _ _ (g.slots t)
  aV:=λt=>by rw [Nw];exact Q _ _ (g.aV t)
  vars:=λt P h=>by
   rcases J t P h with⟨rfl,rfl⟩|⟨H,c0,O,rfl⟩
   ·refine⟨cur,r.e,(show z.vb t=b from af rfl).symm▸m,⟨by rw [xZ,h2];exact h3,λh=>qk⟩,λj hj=>?_⟩
    rw [xZ]at hj;have hx:=h6 j 0 hj qk;rw [hz j hj,hsz,cQ,Nat.add_zero]at hx;have hx:cur.getD j undef= .slice none 0 0:=aH.aC (w:=w) (G:=E.G) hx;rw [hx,MH hj];refine⟨rfl,λk l=>.inl ⟨by simp only [z,af (lA B j)],rfl⟩⟩
   ·obtain⟨uJ,e0,m0,hs0,hr0⟩:=g.vars t c0 O
    refine⟨uJ,e0,by simpa only [z,ae H]using m0,uu hs0,λj hj=>?_⟩;rw [dB _ rfl];have:=hr0 j (uu hj);exact⟨this.1,Q _ _ this.2⟩
  rows:=λi k h=>by
   rcases L i k h with⟨c1,c2,c3⟩|⟨c1,_,rfl⟩
   ·have hn:¬B<=i:=qk
    rcases g.rows i k c3 with⟨N,h8⟩|⟨b',n,cur',N,h8⟩
    ·exact .inl ⟨A hn N,h8⟩
    ·exact .inr ⟨b',n,cur',A hn N,h8⟩
   ·exact .inl ⟨by simp only [z,af c1],rfl⟩
  maps:=g.maps
  boxes:=λt P h=>g.boxes t P (D t P h)
  vv:=λt t' c c' h l Z=>by
   rcases J t c h with⟨rfl,rfl⟩|⟨H,c0,O,rfl⟩<;>rcases J t' c' l with⟨rfl,rfl⟩|⟨hne',c0',h0',rfl⟩
   ·rfl
   ·simp only [z,ae hne']at Z;exact(g.vr t' c0' q r (b,X) h0' hr h1 Z.symm).elim
   ·simp only [z,ae H]at Z;exact(g.vr t c0 q r (b,X) O hr h1 Z).elim
   ·simp only [z,ae H,ae hne']at Z;exact g.vv t t' c0 c0' O h0' Z
  rr:=λi i' r1 r2 p h l T p' hp' Z=>by
   obtain⟨_,a1,a2⟩:=M i r1 p h T;obtain⟨_,b1,b2⟩:=M i' r2 p' l hp';exact g.rr i i' r1 r2 p a1 b1 a2 p' b2 Z
  vr:=λt c i k p h hi T=>by
   obtain⟨a0,a1,a2⟩:=M i k p hi T;rcases J t c h with⟨rfl,rfl⟩|⟨H,c0,O,rfl⟩
   ·simp only [z]
    exactλZ=>a0 (g.rr i q k r p a1 hr a2 (b,X) h1 Z.symm)
   ·simp only [z,ae H];exact g.vr t c0 i k p O a1 a2
  bb:=λt t' c c' h l=>g.bb t t' c c' (D t c h) (D t' c' l)
  bv:=λt t' c c' h hv=>by
   rcases J t' c' hv with⟨rfl,rfl⟩|⟨H,c0,O,rfl⟩
   ·simp only [z];exact g.br t c q r (b,X) (D t c h) hr h1
   ·simp only [z,ae H];exact g.bv t t' c c0 (D t c h) O
  br:=λt c i k p h hi T=>by
   obtain⟨_,a1,a2⟩:=M i k p hi T;exact g.br t c i k p (D t c h) a1 a2
  aZ:=λt b' h=>by
   have H:t≠K:=λU=>by rw [U,hK0]at h;cases h
   simp only [z,ae H];exact g.aZ t b' h
  bM:=λi p h=>by
   have hn:¬B<=i:=λc=>by rw [(hB i c).2]at h;cases h
   simp only [z,ae hn];exact g.bM i p h
  bI:=λi k p h T O=>by
   obtain⟨_,a1,a2⟩:=M i k p h T;exact g.bI i k p a1 a2 O}
def R.nest(q K B:Nat)(e:TypeId){r:Row}(f:s.row q=some r)(n:r.ds≠[])(h:r.sz=1)(z:∀j,j<r.ds.length->r.ds.getD j (.ak [])= .raw (.slice none 0 0))
  (l:s.var K=none)(d:C.vb0 K=none)(b:9000<=K % 10000)(m:∀i,B<=i->s.row i=none/\C.fP i=none)(H:q<B)(next:R C k (s.nest q K r.ds.length B e)):R C k s:=λa w E g=>by
 obtain⟨o,G⟩:=g.nest (e:=e) f n h z l d b m H;exact next a w o G
def SV.gJ(B n:Nat)(f:Nat->List PD):SV->SV
 | .own i=>if B<=i/\i<B+n then .pd (.list 1 (f (i-B)))else .own i
 | .dP i k o=>if B<=i/\i<B+n then .dead else .dP i k o
 | .view i k=>if B<=i/\i<B+n then .dead else .view i k
 | .gd c v=>.gd c (v.gJ B n f)
 | .gV t v=>.gV t (v.gJ B n f)
 |v=>v
def St.gJ(s:St)(B n:Nat)(f:Nat->List PD)(l:List (Nat×Row)):St:=
 {s with slots:=s.slots.map λp=>(p.1,p.2.gJ B n f),vars:=s.vars.map λp=>(p.1,p.2.map (SV.gJ B n f)),rows:=l,gs:=s.gs.map λp=>(p.1,p.2.gJ B n f)}
def Iy(B:Nat)(f:Nat->List PD)(x:SV):x.gJ B 0 f=x:=by
 induction x with
 |own i=>simp only [SV.gJ];rw [ae qk]
 |dP i k o=>simp only [SV.gJ];rw [ae qk]
 |view i k=>simp only [SV.gJ];rw [ae qk]
 |gd c v h=>simp only [SV.gJ,h]
 |gV t v h=>simp only [SV.gJ,h]
 |_=>rfl
def Iz(B m:Nat)(e:TypeId)(f:Nat->List PD)(x:SV):(x.gJ B m f).dI (B+m) ⟨e,1,f m⟩=x.gJ B (m+1) f:=by
 induction x with
 |own i=>
  simp only [SV.gJ]
  by_cases h:B<=i/\i<B+m
  ·rw [af h,af qk];rfl
  ·rw [ae h]
   simp only [SV.dI]
   by_cases H:i=B+m
   ·subst H;rw [af rfl,af qk];simp
   ·rw [ae H,ae qk]
 |dP i k o=>
  simp only [SV.gJ]
  by_cases h:B<=i/\i<B+m
  ·rw [af h,af qk];rfl
  ·rw [ae h]
   simp only [SV.dI]
   by_cases H:i=B+m
   ·subst H;rw [af rfl,af qk]
   ·rw [ae H,ae qk]
 |view i k=>
  simp only [SV.gJ]
  by_cases h:B<=i/\i<B+m
  ·rw [af h,af qk];rfl
  ·rw [ae h]
   simp only [SV.dI]
   by_cases H:i=B+m
   ·subst H;rw [af rfl,af qk]
   ·rw [ae H,ae qk]
 |gd c v a=>simp only [SV.gJ,SV.dI,a]
 |gV t v a=>simp only [SV.gJ,SV.dI,a]
 |_=>rfl
def Rx(B n:Nat)(f:Nat->List PD):(sZ B n).map (SV.gJ B n f)=(yD n f).map .pd:=by
 simp only [sZ,yD,cr];refine c8 λv h=>?_;have:=cd.1 h;simp only [Function.comp,SV.gJ];rw [af qk];simp
def J3{α:Type}(p:Nat->Bool)(i:Nat):∀l:List (Nat×α),lk i (l.filter λx=>p x.1)=if p i=true then lk i l else none
 | []=>jx
 |(j,x)::l=>by
  simp only [cI]
  by_cases h:j=i
  ·subst h
   cases c:p j<;>simp [lk,J3 p j l,c]
  ·split
   ·simp only [lk,ae h];exact J3 p i l
   ·simp only [lk,ae h];exact J3 p i l
def R.gJ(B:Nat)(l:List (Nat×Row))(q:s.rows=l++tl B n e f)(N:∀p∈l,p.1<B)(z:∀i,B<=i->C.fP i=none/\C.old i=none)(next:R C k (s.gJ B n f l)):R C k s:=by
 intro a w E g;have o:∀i,B<=i->lk i l=none:=λi G=>IN N G;have d:∀i,s.row i=(lk i l).or (lk i (tl B n e f)):=λi=>by rw [St.row,q,qO]
 let X:Nat->St:=λm=>{s with slots:=s.slots.map λp=>(p.1,p.2.gJ B m f),vars:=s.vars.map λp=>(p.1,p.2.map (SV.gJ B m f)),rows:=s.rows.filter (λx=>(λj=>decide (j<B\/B+m<=j)) x.1),gs:=s.gs.map λp=>(p.1,p.2.gJ B m f)}
 have b:∀m t,(X m).get t=(s.get t).gJ B m f:=λm t=>by simp only [X,St.get,dh];cases lk t s.slots<;>rfl
 have A:∀m t,(X m).dR t=(s.dR t).gJ B m f:=λm t=>by simp only [X,St.dR,dh];cases lk t s.gs<;>rfl
 have v:∀m t,(X m).var t=(s.var t).map (List.map (SV.gJ B m f)):=λm t=>by simp only [X,St.var,dh]
 have H:∀m i,(X m).row i=if i<B\/B+m<=i then s.row i else none:=λm i=>by
  simp only [X,St.row];exact(J3 (λj=>decide (j<B\/B+m<=j)) i s.rows).trans (by simp only [cE])
 have M:∀m,m<=n->∃J,aB C (X m) a w J:=by
  intro m
  induction m with
  |zero=>
   intro _;refine⟨E,g.weak ⟨rfl,λt=>by rw [b,Iy];exact .same _,λt D h=>?_,λi r h=>?_,λ_ _ h=>h,λt=>by rw [A,Iy];exact .same _⟩⟩
   ·rw [v]at h
    cases u:s.var t with
    |none=>rw [u]at h;cases h
    |some c0=>
     rw [u]at h;cases h;refine⟨c0,rfl,qr,λj _=>?_⟩;rw [dB _ rfl,Iy];exact .same _
   ·rw [H]at h;split at h;exact h;cases h
  |succ m K=>
   intro Z;obtain⟨E1,Q⟩:=K qk
   have L:(X m).row (B+m)=some ⟨e,1,f m⟩:=by
    rw [H,af qk,d,o _ qk,eI,iP qk]
   obtain⟨U,P⟩:=Q.dI (z _ qk).1 L (z _ qk).2;refine⟨U,P.weak ⟨rfl,λt=>by rw [b,St.Pv,b,Iz];exact .same _,λt D h=>?_,λi r h=>?_,λ_ _ h=>h,λt=>by rw [A,St.UC,A,Iz];exact .same _⟩⟩
   ·rw [v]at h
    cases u:s.var t with
    |none=>rw [u]at h;cases h
    |some c0=>
     rw [u]at h;cases h;refine⟨(c0.map (SV.gJ B m f)).map (SV.dI (B+m) ⟨e,1,f m⟩),by rw [St.X5,v,u];rfl,qr,λj _=>?_⟩;rw [dB _ rfl,dB _ rfl,dB _ rfl,Iz];exact .same _
   ·rw [H]at h
    rw [St.X6,H]
    split at h
    ·rename_i c;rw [ae qk,af qk];exact h
    ·cases h
 obtain⟨J,T⟩:=M n (a3 _);refine next a w J (T.weak ⟨rfl,λt=>by rw [b];simp only [St.get,St.gJ,dh];cases lk t s.slots<;>exact .same _,λt D h=>?_,λi r h=>?_,λ_ _ h=>h,λt=>by rw [A];simp only [St.dR,St.gJ,dh];cases lk t s.gs<;>exact .same _⟩)
 ·have O:(s.var t).map (List.map (SV.gJ B n f))=some D:=by rw [<-h];simp only [St.var,St.gJ,dh]
  exact⟨D,by rw [v,O],rfl,λ_ _=>.same _⟩
 ·have h:lk i l=some r:=h
  have G:i<B:=Nat.lt_of_not_le λc=>by rw [o i c]at h;cases h
  rw [H,af (.inl G),d,h];rfl
def R.rVp{P:Program}{fn:Func}{e:World}{G:Pub}{bs:List (Nat×Nat)}{r:Nat->Option (Nat×Nat)}{ids pn:List Nat}{Q:QV}(t0 d:Nat)(vars:List (Nat×List SV))(rows:List (Nat×Row))(xs:List SV)
  (h:resV P s fn.results.toList=some (True,xs))(m:∀vb:Nat->Nat,(∀t b,lk t bs=some b->vb t=b)->vb t0=d->Q vb .ret xs vars rows)(j:Has s.var vars)(l:Has s.row rows)
  (o:xs.all (SV.within (keys bs++keys vars) (keys rows))=true:=by rfl)(n:(vars.all λp=>p.2.all (SV.within (keys bs++keys vars) (keys rows)))=true:=by rfl)(q:lk t0 bs=none:=by rfl):
  R ((Cx.fv P e G (bodyPost P fn (iG P e G bs r ids pn Q)) bs r ids pn).pin t0 d) (.code .ret::k) s:=by
 refine R.ret λa w E g=>?_;have A:E.vb t0=d:=g.aZ t0 d (af rfl)
 have H:∀t b,lk t bs=some b->E.vb t=b:=λt b f=>g.aZ t b (by
  show(if t=t0 then some d else lk t bs)=some b;rw [ae (by rintro rfl;rw [q]at f;cases f)];exact f)
 have i:aB (Cx.fv P e G (bodyPost P fn (iG P e G bs r ids pn Q)) bs r ids pn) s a w E:=g.TM (λt=>lk t bs) H;refine⟨g.defers,?_⟩;obtain⟨v,z,x,u⟩:=DX i h trivial;exact⟨_,iH z,.ret,xs,vars,rows,v.toArray,E,m E.vb H A,(i.part x u j.lk l.lk rfl).post _,rfl,o,n⟩
end
end Go.au
namespace Go.Proofs.Z
open Go.au
variable {l:List Int}{m j:Nat}{M:List ByteArray}
def D3:aF aa 148:=λ_ _=>qq
def Rs:aF aa 238:=λ_ _=>qq
def f148(t:Nat):Nat:=if t=1 then 20203 else t
def as4(t:Nat):Nat:=if t=20203 then 1 else t
def Cq(l:List Int):bJ aa 148 [] [] [.pd (ints l)] [] [] (λ_ res xs vars rows=>res= .ret/\xs=[.clo 238 [20203]]/\vars=[(20203,[.pd (ints l)])]/\rows=[]):=by
 refine bJ.mk Tryz.func148 λw G r=>?_;refine ac ?_;refine qa ?_;refine R.Ij f148 as4 rfl (MI rfl) ?_;simp only [go_sem,f148];refine R.rX [(20203,[.pd (ints l)])] [] [.clo 238 [20203]] ?_;exactλ_ _=>⟨rfl,rfl,rfl,rfl⟩
def oS(m j:Nat):Bool:=IntKind.i64.wrap ((BitVec.ofInt 64 ((m:Int).fdiv (2 ^ min j 64)) &&& BitVec.ofInt 64 1).toNat)==1
def kJ(l:List Int)(m j:Nat):List Int:=((aw j).filter (oS m)).map λi=>l.getD i 0
def HR(h:j<l.length)(H:oS m j=true):kJ l m (j+1)=kJ l m j++[l[j]]:=by
 simp [kJ,fz,eV,H,h]
def Pi(h:oS m j=false):kJ l m (j+1)=kJ l m j:=by
 simp [kJ,fz,eV,h]
def V8(l:List Int)(m j:Nat):(kJ l m j).length<=j:=by
 simp only [kJ,al];exact bz (gC _ _) qr
def HS{y:Int}(h:y∈kJ l m l.length):y∈l:=by
 obtain⟨i,a,rfl⟩:=aq.1 h;have H:i<l.length:=cd.1 (cG.1 a).1;simp [H]
def xN(l:List Int)(stop:List Int->Bool)(b:Bool)(vars:List (Nat×List SV))(rows:List (Nat×Row)):Prop:=
 vars=[(20203,[.pd (ints l)]),(6,[.pd (B b)])]/\rows=[]/\if b then∃m,m<2 ^ l.length/\stop (kJ l m l.length)=true else∀m,m<2 ^ l.length->stop (kJ l m l.length)=false
def HT(J b2:Nat)(l:List Int)(M:l.length<=6)(arg:List Int->Prop)(g:∀m,arg (kJ l m l.length))(stop:List Int->Bool):
  ItX aa 238 6 [(20203,J),(6,b2)] [] [.aA 20203 0] [(20203,[.pd (ints l)]),(6,[.pd (B false)])] [] arg stop (xN l stop):=by
 refine ItX.mk Tryz.func238 rfl Rs (by simp [Tryz.ntmps238]) λw G Z r E bx O gY z x H n T C U Q=>?_;subst U;obtain rfl:b2=bx:=by simpa [Go.au.lk]using x
 have q:(2:Nat) ^ l.length<=64:=by
  calc(2:Nat) ^ l.length<=2 ^ 6:=Nat.pow_le_pow_right qu M
   _=64:=rfl
 obtain⟨N,f⟩:∃N,2 ^ l.length=N:=⟨_,rfl⟩;rw [f]at q
 have p:IntKind.i64.wrap (1*2 ^ min l.length 64)=(N:Int):=by
  have e:(1*2 ^ min l.length 64:Int)=(N:Int):=by
   rw [nq qk,<-f];simp
  rw [e];exact wrap64 qk qk
 refine z5 p ?_;refine R.og (λ(m:Nat) s=>{St.lp [0,1,9] [(10,.pd (I m))] [20203,6] [] [] [] s with maps:=two r O E z}) (λ(m:Nat)=>m<=N/\∀j,j<m->stop (kJ l j l.length)=false) (λ(m:Nat)=>N-m) (0) (⟨qk,λj h=>qk⟩) (by(simp only [go_sem,H,ba]);all_goals(and_intros<;>first|rfl|simp)) ?_;rintro m ⟨hm,o⟩;refine ac ?_;refine⟨λh=>?_,λh=>?_⟩
 ·have u:m<N:=uu h
  refine ac ?_;refine R.mV 4 1004 3 1 qn rfl rfl ?_;simp only [go_sem];refine R.og (λ(j:Nat) s=>{St.lp [0,1,3,9,10,13,14] [(15,.pd (I j)),(4,.own 1004)] [20203,6] [] [] [(1004,cO (kJ l m j))] s with maps:=two r O E z}) (λ(j:Nat)=>j<=l.length) (λ(j:Nat)=>l.length-j) (0) qk (by(simp only [go_sem,H,ba]);all_goals(and_intros<;>first|rfl|simp)) ?_;intro j P;refine ac ?_;refine⟨λh=>?_,λh=>?_⟩
  ·have A:j<l.length:=uu h
   refine qf A ?_;refine⟨qk,λv=>?_,λv=>?_⟩
   ·have L:=V8 l m j
    have d:(kJ l m j).map I++[I l[j]]=(kJ l m (j+1)).map I:=by rw [HR A v,bl];rfl
    refine ac ?_;refine R.append (r:=cO (kJ l m j)) (es:=[I l[j]]) rfl rfl (ah qn) rfl rfl rfl rfl sl35 rfl zq qr (congrArg (Option.map List.length) Gz) rfl (λi hi=>vi) kq kj ?_;apply ev8;simp only [go_sem,wrapN (k:=j) qk];refine R.fE (j+1) qk (l:=by(simp only [go_sem,d,H,ba]);all_goals(and_intros<;>first|rfl))
   ·have d:kJ l m j=kJ l m (j+1):=(Pi v).symm
    rw [d];apply ev8;simp only [go_sem,wrapN (k:=j) qk];refine R.fE (j+1) qk (l:=by(simp only [go_sem,H,ba]);all_goals(and_intros<;>first|rfl))
  ·have a:j=l.length:=by have:¬j<l.length:=by simpa using h
                         omega
   subst a
   (refine aJ 1 _ _ ?_;simp only [go_sem])
   refine R.dI 1004 rfl rfl ?_;simp only [go_sem];refine R.seq (R.VW (xY _ _ ?_));simp only [go_sem,FP];refine Bc.RB (K:=6) (i:=kJ l m l.length) (stop:=stop) (arg:=arg) rfl rfl rfl qn rfl rfl (g m) rfl H T n rfl qu (λbx x=>?_) ⟨_,rfl⟩ ?_
   ·have D:=x ⟨G,λt=>if t=6 then b2 else J,λ_=>none,λ_=>0⟩ (λt b h=>by
     simp only [cvV,Go.au.lk]at h
     split at h
     ·rename_i e;subst e;cases h;simp
     ·split at h
      ·rename_i e;subst e;cases h;simp
      ·cases h)
    simp only [a7]at D;subst D;exact Q
   cases d:stop (kJ l m l.length)
   ·refine xY _ _ ?_
    simp only [go_sem,FP,cH,bS,↓reduceIte,b6];refine ac ?_;refine R.skip (R.inBlock ?_)
    have X:∀j,j<m+1->stop (kJ l j l.length)=false:=λj P=>by
     rcases cn j m with k|k
     ·exact o j k
     ·obtain rfl:j=m:=qk
      exact d
    apply ev8;simp only [go_sem,wrapN (k:=m) qk];refine R.fE (m+1) ⟨qk,X⟩ (l:=by(simp only [go_sem,H,ba]);all_goals(and_intros<;>first|rfl))
   ·refine xY _ _ ?_
    simp only [go_sem,FP,cH,bS,↓reduceIte];refine ar ?_;refine R.rI true [(20203,[.pd (ints l)]),(6,[.pd (B true)])] [] rfl ⟨rfl,rfl,?_⟩ rfl ⟨rfl,rfl,trivial⟩ trivial rfl;simp only [a7,f];exact⟨m,u,d⟩
 ·have a:m=N:=by have:¬m<N:=by simpa using h
                 omega
  subst a;refine ac ?_;refine R.oI false [(20203,[.pd (ints l)]),(6,[.pd (B false)])] [] rfl ⟨rfl,rfl,?_⟩ rfl ⟨rfl,rfl,trivial⟩ trivial rfl;simp only [b6,ba,f];exact o
def Vi:aF aa 99:=λ_ _=>qq
abbrev zx(M:List ByteArray):jo:=M.map λt=>(.string t,.raw (.bool true))
def tq(M:List ByteArray)(t:ByteArray):Bool:=M.any λk=>k.data.toList==t.data.toList
def Bg{t:ByteArray}:tq M t=true↔t∈M:=by
 unfold tq;rw [gk];constructor
 ·rintro⟨⟨k⟩,H,h⟩
  obtain⟨t⟩:=t;have:=eq_of_beq h;have e:k=t:=hZ this;subst e;exact H
 ·exactλh=>⟨t,h,qr⟩
def uj(e:List Int)(K:List (List Int))(M:List ByteArray):Bool:=
 if e.length>6 then K.any λk=>yC e k else(aw (2 ^ e.length)).any λi=>tq M (jU (kJ e i e.length))
def HU{w:World}{G:Pub}(q:MapAt w G m (zx M))(l:M.Nodup)(t:ByteArray):(Instr.lookup 188 (.map (some m)) (.string t) false).run aa w= .ok (.bool (tq M t)) w:=by
 obtain⟨_,E,C,p,s,H,_⟩:=q
 obtain⟨u,g,f⟩:=G7 (P:=aa) (w:=w) (G:=G) (key:=.string t) (ks:=(zx M).map (·.1)) (ds:=(zx M).map (·.2)) (fd:=tq M t) (d:=B (tq M t)) TR p (uu s) (λi hi=>by
  simp only [al]at hi;rw [(H i (uu hi)).1];simp [ag,hi]) (λi hi=>by
  simp only [al]at hi;have:=(H i (uu hi)).2
  simpa [ag,hi]using this) (by
   cases n:tq M t with
   |true=>
    have a:t∈M:=Bg.1 n;obtain⟨i,hi,j⟩:=bN a;refine⟨rfl,λk b=>?_,?_,i,uu hi,by simp [hi,j],ym⟩
    ·simp only [cr,aq]at b
     obtain⟨z,_,rfl⟩:=b;rfl
    ·rw [cr]
     exact(eg.2 (l.imp λh e=>h (uu e)))
   |false=>
    have a:t∉M:=λh=>by rw [Bg.2 h]at n;cases n
    refine⟨rfl,λk b=>?_,zd4⟩;simp only [cr,aq]at b;obtain⟨z,o,rfl⟩:=b;exact⟨rfl,λe=>a (by simp only [Function.comp]at e;cases e;exact o)⟩) false
 have:u= .bool (tq M t):=aH.aC f;subst this;simpa using g
def HV(e:List Int)(K:List (List Int))(M:List ByteArray)(m:Nat)(hs:e.Pairwise (· < ·))(hle:e.length<=1000000)(hb:∀x∈e,-9223372036854775808<=x/\x<=9223372036854775807)(hK:K.length<=1000000000)(hnd:M.Nodup):
  Qr aa 99 [.pd (ints e),.pd (lls K),.pd (.raw (.map (some m)))] m (zx M) (λ_ res xs vars rows=>res= .ret/\xs=[.pd (B (uj e K M))]/\vars=[]/\rows=[]):=by
 refine Qr.mkM Tryz.func99 rfl Vi (by simp [Tryz.ntmps99]) λw G rb=>?_;refine ac ?_;refine⟨λh=>?_,λh=>?_⟩
 ·have hlt:e.length>6:=by have:(6:Int)<e.length:=by simpa using h
                          omega
  refine ac ?_;refine R.kC (b:=true) (GX K λk=>yC e k) rfl rfl (zc (.cons (.clo 146 [3] [ints e] _ (.clo 146 [3] [ints e] rfl (λ_=>[.pd (ints e)]) (λi A=>?_) (λi j A hj=>?_)) Fm ?_) .nil)) ?_
  ·obtain rfl:i=0:=uu A
   exact⟨rfl,a3 _⟩
  ·obtain rfl:i=0:=uu A
   obtain rfl:j=0:=by simpa [PD.width]using hj
   exact .pd _
  ·rintro es r ⟨k,-,rfl,rfl⟩
   exact Fr e k hs qk
  refine ar ?_;have e1:uj e K M=K.any λk=>yC e k:=af hlt;rw [e1];exact R.asY [] [] [.pd (B (K.any λk=>yC e k))] rfl qn (λ_ _=>⟨rfl,rfl,rfl,rfl⟩) trivial trivial rfl rfl
 ·have as5:e.length<=6:=by have:(e.length:Int)<=6:=by simpa using h
                           omega
  refine ac ?_;refine R.cX [] [] [20203] [] rfl rfl rfl (λvb hvb=>Cq e) rfl zp D3 ?_;rintro YJ-dn res ys vars rows ⟨rfl,rfl,rfl,rfl⟩;refine⟨rfl,rfl,trivial,?_⟩;refine ac ?_;refine R.RC (K:=6) (J:=.ret) (stop:=λs=>tq M (jU s)) (arg:=λs=>∃i,s=kJ e i e.length) (Q:=xN e λs=>tq M (jU s)) (aW:=[(20203,[.pd (ints e)]),(6,[.pd (B false)])]) (bH:=[]) (pn:=[]) (caps:=[20203]) rfl rfl rfl [] rfl rfl (λvb _=>HT (vb 20203) (vb 6) e as5 _ (λi=>⟨i,rfl⟩) _) (Has.lk ⟨rfl,rfl,trivial⟩) (λi r h=>xa) qr (λ_ _=>rfl) ?_ ?_
  ·intro a l E fn g W G' v x hK hG hG0 hnr hnb hv hx n N
   refine⟨fn,_,_,_,run_yield n rfl,roundIn_of_wpIn trivial ?_⟩;obtain⟨i,rfl⟩:=hx;obtain⟨eT,N⟩:=N;generalize hxx:kJ e i e.length=x at*
   have hxl:x.length<=1000000:=by rw [<-hxx];exact bz (V8 ..) hle
   have hxb:∀y∈x,-9223372036854775808<=y/\y<=9223372036854775807:=λy hy=>by rw [<-hxx]at hy;exact hb y (HS hy)
   have ev:∀(x:Act) (d:Nat) (v:Value) (j:Nat),x.tmps.size=21->d<21->(x.put (some d) v).eval (.tmp j)=if j=d then v else x.eval (.tmp j):=λx d v j h1 h2=>dF x d v j qk
   have sz:∀(x:Act) (d:Nat) (v:Value),(x.put (some d) v).tmps.size=x.tmps.size:=λx d v=>ud;have ha0:a.tmps.size=21:=g.size;have e5:a.eval (.tmp 5)= .pointer (some ⟨E.vb 5,0,none⟩):=g.slots 5;have e6:a.eval (.tmp 6)= .pointer (some ⟨E.vb 6,0,none⟩):=g.slots 6;have eA:(⟨(((#[16]:Array Nat).zip #[v]).foldl (λtmps (t,a)=>tmps.setIfInBounds t a) a.tmps),[]⟩:Act)=({a with defers:=[]}:Act).put (some 16) v:=ud;rw [eA];refine wpIn_region_list (Bf (λ_=>trivial) rfl (λ_ h=>xa) (VX rfl) ?_);refine⟨_,run_beginRound n rfl,?_⟩
   let U:Act:=(({a with defers:=[]}:Act).put (some 16) v).put (some 7) ((({a with defers:=[]}:Act).put (some 16) v).eval (.tmp 16))
   have s1:U.tmps.size=21:=by simp only [U,sz];exact ha0
   have f7:U.eval (.tmp 7)=v:=by
    simp only [U];rw [ev _ _ _ _ yb qk,af rfl,ev {a with defers:=[]} _ _ _ ha0 qk,af rfl]
   have f5:U.eval (.tmp 5)= .pointer (some ⟨E.vb 5,0,none⟩):=by
    simp only [U];rw [ev _ _ _ _ yb qk,ae qk,ev {a with defers:=[]} _ _ _ ha0 qk,ae qk];exact e5
   have f6:U.eval (.tmp 6)= .pointer (some ⟨E.vb 6,0,none⟩):=by
    simp only [U];rw [ev _ _ _ _ yb qk,ae qk,ev {a with defers:=[]} _ _ _ ha0 qk,ae qk];exact e6
   have hmu:∀b,(Cx.fv aa l E.G (λ_ _ _=>True) ((keys [(20203,[SV.pd (ints e)]),(6,[.pd (B false)])]).map λt=>(t,E.vb t)) E.rb (keys ([]:List (Nat×Row))) []).mu b->b=E.vb 20203\/b=E.vb 6:=by
    rintro b (⟨t',C⟩|⟨i',p,k1,k2,k3⟩)
    ·simp only [keys,ap,ax,Go.au.lk]at C
     split at C
     ·cases C;exact .inl rfl
     ·split at C
      ·cases C;exact .inr rfl
      ·cases C
    ·simp [keys]at k1
   obtain⟨pl,eT5,hm5,hs5,hr5⟩:=g.vars 5 [.pd (.raw (.map (some m)))] rfl;have as6:E.vb 5<l.heap.size:=(bm.1 hm5.2.2).1
   have h5n:¬(Cx.fv aa l E.G (λ_ _ _=>True) ((keys [(20203,[SV.pd (ints e)]),(6,[.pd (B false)])]).map λt=>(t,E.vb t)) E.rb (keys ([]:List (Nat×Row))) []).mu (E.vb 5):=λh=>by
    rcases hmu _ h with h|h
    ·exact absurd (g.vv 5 20203 _ _ rfl rfl h) qu
    ·exact absurd (g.vv 5 6 _ _ rfl rfl h) qu
   have hW5:W.heap[E.vb 5]? =some (.cells pl eT5 (0,0)):=(hK.block _ as6 h5n).trans hm5.2.2;have nQ:MapAt l E.G m (zx M):=g.maps m (.map (zx M)) (by simp [St.map,Go.au.lk]);have Y8:=nQ.lt
   have hmn:¬(Cx.fv aa l E.G (λ_ _ _=>True) ((keys [(20203,[SV.pd (ints e)]),(6,[.pd (B false)])]).map λt=>(t,E.vb t)) E.rb (keys ([]:List (Nat×Row))) []).mu m:=λh=>by
    obtain⟨_,es,T,h9,_⟩:=nQ;rcases hmu _ h with h|h
    ·obtain⟨c1,c2,c3,_⟩:=g.vars 20203 [.pd (ints e)] rfl
     have:=c3.2.2;rw [<-h,h9]at this;cases this
    ·obtain⟨c1,c2,c3,_⟩:=g.vars 6 [.pd (B false)] rfl
     have:=c3.2.2;rw [<-h,h9]at this;cases this
   have hWm:W.heap[m]? =l.heap[m]?:=hK.block m Y8 hmn;show Code.wpIn _ _ _ _ _ U _
   clear_value U
   have hM1:∀f,f.heap[m]? =l.heap[m]?->MapAt f Iu m (zx M):=by
    intro f hW4;obtain⟨h1,es,T,h2,h3,H,h5⟩:=nQ
    exact⟨λo h=>h1 0 (by rw [h.1];exact g.tab.1),es,T,hW4.trans h2,h3,λi A=>⟨(H i A).1,by
     have h6:=(H i A).2;have h7:(zx M).getD i (undef,.ak [])=(.string (M.getD i ByteArray.empty),.raw (.bool true)):=by simp [zx]at A;simp [A]
     rw [h7]at h6⊢;have:(es.getD i default).val= .bool true:=aH.aC h6;rw [this];exact Rd.raw _ rfl⟩,h5⟩
   have c5:pl.getD 0 undef= .map (some m):=aH.aC (w:=l) (G:=E.G) (hr5 0 qr).2;have n5:0<pl.size:=by have:=hs5.1;simp only [an,a9]at this;omega
   have Rv:∀f:World,f.heap[E.vb 5]? =W.heap[E.vb 5]?->f.cell? ⟨E.vb 5,0,none⟩=some (.map (some m)):=λf h=>by
    rw [cell_of_row _ _ _ _ _ _ (h.trans hW5)];simpa [Array.getD,n5]using c5
   have hWs:l.heap.size+1<W.heap.size:=(bm.1 n).1;have as7:m<W.heap.size:=by have:=hK.size;omega
   have h5W:E.vb 5<W.heap.size:=by have:=hK.size;omega
   have h6W:E.vb 6<W.heap.size:=(bm.1 N).1;have h6n:E.vb 6≠l.heap.size+1:=λe=>by rw [e,n]at N;cases N
   have z:∀X,∀f:World,Go.RowKit.Below W.heap.size (W.putObj (l.heap.size+1) X) f->∀b,b<W.heap.size->b≠l.heap.size+1->f.heap[b]? =W.heap[b]?:=λX f h b hb1 hb2=>(h.block b hb1).trans (Go.au.dU hb2 _);refine wpIn_block (wpIn_seq ?_);refine Rp (B:=W.heap.size) (mv:=.map (some m)) (str:=.string (jU x)) (res:=.bool (tq M (jU x))) (ad:=⟨E.vb 5,0,none⟩) (d0:=17) (d1:=18) (d2:=19) (d3:=20) (x5:=5) (x7:=7) mixed qv qv qv qv qv qv qv rfl rfl rfl rfl ⟨rfl,rfl,rfl,rfl⟩ ⟨rfl,rfl,rfl,rfl⟩ (by rw [s1];decide) qu uC uE tc f5 f7 ?_ ?_ ?_ ?_
   ·exactλf H=>Rv f (z _ f H _ h5W qk)
   ·intro f H
    have ho:=z _ f H;have hkp:Keeps W G' f G':=⟨λ_ _ h=>h,λb o hb=>World.cell?_of_block (a:=⟨b,o,none⟩) (ho b (hG.lt _ _ hb) (λe=>hnr o (e▸hb))),λb o hb=>ho b (hG.lt _ _ hb) (λe=>hnr o (e▸hb))⟩;have q:W.heap.size<=f.heap.size:=by have:=H.size;simpa using this
    have hG4:Go.au.Good f G':=⟨λb o hb=>cj (hG.lt _ _ hb) q,hG.tab.keep hkp⟩;refine((Ou x hxl hxb).2 f G' #[v] hG4 rfl (λi A=>?_)).mono ?_
    ·obtain rfl:i=0:=uu A
     exact hv.keep hkp
    ·rintro e w5 ⟨u,rfl,hr,hbel⟩
     have:u= .string (jU x):=aH.aC hr;subst this;exact⟨rfl,H.trans (hbel.mono q)⟩
   ·exactλf H=>HU (hM1 f ((z _ f H m as7 qk).trans hWm)) hnd _
   ·intro A4 f hs4 h20 hrest H
    have ho:=z _ f H;have h64:A4.eval (.tmp 6)= .pointer (some ⟨E.vb 6,0,none⟩):=(hrest 6 qu qu qu qu).trans f6;have hr4:=(H.block _ hWs).trans (Go.au.kZ n _);have q:W.heap.size<=f.heap.size:=by have:=H.size;simpa using this
    have P:∀O,W.heap[l.heap.size+1]? =some O->Go.RowKit.Below W.heap.size W (Go.au.setB f (l.heap.size+1) O):=λO hO=>
     ⟨H.os,H.tape,H.output,by simpa [Go.au.setB]using q,λk hk=>by
      by_cases hkr:k=l.heap.size+1
      ·subst hkr;rw [Go.au.kZ hr4,hO]
      ·rw [Go.au.dU hkr];exact ho k hk hkr⟩
    show Code.wpIn _ _ _ _ _ A4 f;refine wpIn_cond (t:=tq M (jU x)) h20 ?_
    cases L:tq M (jU x)
    ·simp only [b6,ba]
     refine wpIn_skip ?_;exact⟨_,_,run_endRound none hr4,by simp [L],_,P _ n,by simp only [L,b6,ba];exact(Rt _ _ _ _).symm⟩
    ·simp only [a7]
     have as8:f.heap[E.vb 6]? =some (.cells #[.bool false] eT (0,0)):=(ho _ h6W h6n).trans N;refine wpIn_seq (wpIn_region_list (RE (λ_=>trivial) rfl (λ_ h=>xa) (IM rfl h64 rfl sz4 rfl rfl as8) ?_));refine wpIn_ret ?_;have hr6:=(f9 f (E.vb 6) (l.heap.size+1) #[.bool true] (bt h6n)).trans hr4;refine⟨_,_,run_endRound (some .ret) hr6,by simp [L],_,P _ n,?_⟩;simp only [L,a7];rw [XB _ h6n];exact(Rt _ _ _ _).symm
  ·rintro b vars rows ⟨rfl,rfl,Z⟩
   refine⟨rfl,trivial,λD hD=>?_⟩
   cases b
   ·simp only [b6,ba]at Z⊢
    have e1:uj e K M=false:=by
     rw [uj,ae qk];exact eW.2 λi A=>by rw [Z i (cd.1 A)];simp
    rw [e1];apply ev8;simp only [go_sem,Yx];refine qa ?_;exact R.yU [] [] [.pd (B false)] rfl hD rfl qn (λ_ _=>⟨rfl,rfl,rfl,rfl⟩) trivial trivial rfl rfl
   ·simp only [a7]at Z⊢
    obtain⟨i,A,L⟩:=Z
    have e1:uj e K M=true:=by
     rw [uj,ae qk];exact gk.2 ⟨i,cd.2 A,L⟩
    rw [e1];exact R.yU [] [] [.pd (B true)] rfl hD rfl qn (λ_ _=>⟨rfl,rfl,rfl,rfl⟩) trivial trivial rfl rfl
def Oy:aF aa 359:=λ_ _=>qq
def V9:aF aa 322:=λ_ _=>qq
def Wh:aF aa 234:=λ_ _=>qq
abbrev LL:=List (List Int)
abbrev dK(D:LL):Row:=⟨35,1,D.map ints⟩
def swp(i j:Nat)(D:LL):LL:=(D.set i (D.getD j [])).set j (D.getD i [])
def vM(i j:Nat)(D:LL):(swp i j D).length=D.length:=by simp [swp]
def wS:Nat->Nat->Nat->LL->LL
 |0,_,_,D=>D
 |n+1,a,b,D=>wS n (a+1) (b+1) (swp a b D)
abbrev QL(q:Nat)(D':LL):QV:=λ_ res xs vars rows=>res= .ret/\xs=[]/\vars=[]/\rows=[(q,dK D')]
def sp1(x y:List Int):spl (ints x) 0 (ints y)=ints y:=rfl
def ms(X:LL)(i:Nat)(y:List Int):(X.map ints).set i (ints y)=(X.set i y).map ints:=by rw [gS]
def Bh(q:Nat)(D:LL)(a b n:Nat)(o:a+n<=D.length)(m:b+n<=D.length)(u:D.length<1000000000)(f:Value):bJ aa 359 [] [q] [.own q,.pd (I a),.pd (I b),.pd (I n),.pd (.raw f)] [] [(q,dK D)] (QL q (wS n a b D)):=by
 refine bJ.mk Tryz.func359 λw G r=>?_;refine ac ?_;refine R.fU (λ(p:Nat×LL) s=>St.lp [0,1,2,3] [(10,.pd (I p.1))] [] [] [] [(q,dK p.2)] s) (λ(p:Nat×LL)=>p.1<=n/\p.2.length=D.length/\wS (n-p.1) (a+p.1) (b+p.1) p.2=wS n a b D) (λ(p:Nat×LL)=>n-p.1) ((0,D)) (⟨qk,rfl,rfl⟩) ?_;rintro⟨i,X⟩ ⟨j,d,H⟩;simp only at j d H;refine ac ?_;refine⟨λh=>?_,λh=>?_⟩
 ·have t:i<n:=uu h
  have g:IntKind.i64.wrap ((a:Int)+i)=((a+i:Nat):Int):=kl;have e:IntKind.i64.wrap ((b:Int)+i)=((b+i:Nat):Int):=kl;have h1:a+i<X.length:=qk;have h2:b+i<X.length:=qk;have l:X[a+i]=X.getD (a+i) []:=yp;have E:X[b+i]=X.getD (b+i) []:=j7;refine ac ?_;refine R.hoist [0,1,2,3,4,5,6,7,8,9,10,11,12,14,15,16,17,18] [[13,19,20,21,22,23],[19,13,20,21,22,23]] mixed qv qv qv qr ?_;simp only [go_sem,Il,AX,pick,wQ,y8,g,e];refine⟨qk,qk,?_,?_⟩
  all_goals
   apply ev8;simp only [go_sem,getD_map,h1,h2,l,E,sp1,ms,cc,wrapN (k:=i) qk];repeat refine⟨qk,?_⟩
   refine R.fE (i+1,swp (a+i) (b+i) X) ⟨q6,(vM ..).trans d,by
    rw [show n-i=n-(i+1)+1 by omega]at H;exact H⟩
 ·have:i=n:=by have h:¬i<n:=by simpa using h
               omega
  subst this;rw [nt]at H;refine ac ?_;refine R.oX [] [(q,dK X)] [] ?_;intro _ _;exact⟨rfl,rfl,rfl,by rw [<-H];rfl⟩
def Em(m i j:Nat)(D:LL):LL:=
 if i=j then wS i (m-i) m D else if i=0\/j=0 then D
 else if j<i then Em m (i-j) j (wS j (m-i) m D)else Em m i (j-i) (wS i (m-i) (m+j-i) D)
termination_by i+j
def rF(n a b:Nat)(D:LL):(wS n a b D).length=D.length:=by
 induction n generalizing a b D with
 |zero=>rfl
 |succ n i=>rw [wS,i,vM]
def Qu(m i j:Nat)(D:LL):(Em m i j D).length=D.length:=by
 induction h:i+j using eS generalizing i j D with
 |_ n a=>
  rw [Em]
  split
  ·exact rF ..
  ·split
   ·rfl
   ·split
    ·rw [a (i-j+j) qk _ _ _ rfl,rF]
    ·rw [a (i+(j-i)) qk _ _ _ rfl,rF]
def Ry(q:Nat)(D:LL)(a m b:Nat)(T:a<m)(l:m<b)(Q:b<=D.length)(P:D.length<1000000000)(f:Value):bJ aa 322 [] [q] [.own q,.pd (I a),.pd (I m),.pd (I b),.pd (.raw f)] [] [(q,dK D)] (QL q (Em m (m-a) (b-m) D)):=by
 refine bJ.mk Tryz.func322 λw G O=>?_;have M:IntKind.i64.wrap ((m:Int)-a)=((m-a:Nat):Int):=q8;have L:IntKind.i64.wrap ((b:Int)-m)=((b-m:Nat):Int):=q8;apply ev8;simp only [go_sem,M,L];refine R.fU (λ(p:Nat×Nat×LL) s=>St.lp [0,2,4] [(10,.pd (I p.1)),(11,.pd (I p.2.1))] [] [] [] [(q,dK p.2.2)] s) (λ(p:Nat×Nat×LL)=>0<p.1/\p.1<=m-a/\0<p.2.1/\p.2.1<=b-m/\p.2.2.length=D.length/\Em m p.1 p.2.1 p.2.2=Em m (m-a) (b-m) D) (λ(p:Nat×Nat×LL)=>p.1+p.2.1) ((m-a,b-m,D)) (⟨q6,q6,q6,q6,rfl,rfl⟩) ?_;rintro⟨i,j,X⟩ ⟨C,k,A,g,x,H⟩;simp only at C k A g x H;have n:IntKind.i64.wrap ((m:Int)-i)=((m-i:Nat):Int):=q8;rw [Em]at H;refine ac ?_;refine⟨λh=>?_,λh=>?_⟩
 ·have u:¬i=j:=by
   have h:¬(i:Int)=j:=uu h;omega
  rw [ae u,ae qk]at H;refine ac ?_;refine⟨λl=>?_,λl=>?_⟩
  ·have t:j<i:=uu l
   rw [af t]at H;have o:IntKind.i64.wrap ((i:Int)-j)=((i-j:Nat):Int):=q8;refine z5 n ?_;refine R.cX [] [(q,dK X)] [] [q] rfl rfl rfl (λd e=>Bh q X (m-i) m j qk qk qk f) rfl (zm zv) Oy ?_;rintro d-E r z v rows ⟨rfl,rfl,rfl,rfl⟩;refine⟨rfl,rfl,⟨⟨_,_,af rfl,af rfl,by simp [rF],rfl⟩,trivial⟩,?_⟩;refine z5 o ?_;refine R.fE (i-j,j,wS j (m-i) m X) ⟨q6,q6,A,g,(rF ..).trans x,H⟩ (by show i-j+j<i+j;omega)
  ·have t:i<j:=by
    have l:¬j<i:=uu l;omega
   rw [ae qk]at H;have o:IntKind.i64.wrap ((j:Int)-i)=((j-i:Nat):Int):=q8;have K:IntKind.i64.wrap ((m:Int)+j)=((m+j:Nat):Int):=kl;have J:IntKind.i64.wrap (((m+j:Nat):Int)-i)=((m+j-i:Nat):Int):=q8;apply ev8;simp only [go_sem,n,K,J];refine R.cX [] [(q,dK X)] [] [q] rfl rfl rfl (λd e=>Bh q X (m-i) (m+j-i) i qk qk qk f) rfl (zm zv) Oy ?_;rintro d-E r z v rows ⟨rfl,rfl,rfl,rfl⟩;refine⟨rfl,rfl,⟨⟨_,_,af rfl,af rfl,by simp [rF],rfl⟩,trivial⟩,?_⟩;refine z5 o ?_;refine R.fE (i,j-i,wS i (m-i) (m+j-i) X) ⟨C,k,q6,q6,(rF ..).trans x,H⟩ (by show i+(j-i)<i+j;omega)
 ·have N:i=j:=by
   have h:(i:Int)=j:=uu h;omega
  rw [af N]at H;refine z5 n ?_;refine R.cX [] [(q,dK X)] [] [q] rfl rfl rfl (λd e=>Bh q X (m-i) m i qk qk qk f) rfl (zm zv) Oy ?_;rintro d-E r z v rows ⟨rfl,rfl,rfl,rfl⟩;refine⟨rfl,rfl,⟨⟨_,_,af rfl,af rfl,by simp [rF],rfl⟩,trivial⟩,?_⟩;refine ac ?_;refine R.oX [] [(q,dK (wS i (m-i) m X))] [] ?_;intro _ _;exact⟨rfl,rfl,rfl,by rw [H]⟩
def fF(x y:List Int):Bool:=decide (x.length<y.length)
def yT(x y:List Int):aG aa 98 [.pd (ints x),.pd (ints y)] [I ((x.length:Int)-y.length)]:=by
 refine aG.mk Tryz.func98 λw G=>?_;refine R.bound 0 (sz:=1) (ds:=x.map I) rfl λH=>?_;refine R.bound 1 (sz:=1) (ds:=y.map I) rfl λh=>?_;have H:x.length<=9223372036854775807:=by simpa [maxLen]using H
 have h:y.length<=9223372036854775807:=by simpa [maxLen]using h
 apply ev8;simp only [go_sem,wrap64 (n:=(x.length:Int)-y.length) qk qk];refine R.rC ?_;rfl
def sO(a:Nat):Nat->LL->LL
 |0,D=>D
 |j+1,D=>if a<j+1/\fF (D.getD (j+1) []) (D.getD j [])=true then sO a j (swp (j+1) j D)else D
def nD(a:Nat):Nat->Nat->LL->LL
 |0,_,D=>D
 |n+1,i,D=>nD a n (i+1) (sO a i D)
def D4(a j:Nat)(D:LL):(sO a j D).length=D.length:=by
 induction j generalizing D with
 |zero=>rfl
 |succ j i=>
  rw [sO]
  split
  ·rw [i,vM]
  ·rfl
def sQ(a n i:Nat)(D:LL):(nD a n i D).length=D.length:=by
 induction n generalizing i D with
 |zero=>rfl
 |succ n h=>rw [nD,h,D4]
abbrev CMP:PD:=.raw (.func (.func 98) #[] #[])
def IB(q:Nat)(D:LL)(a b:Nat)(L:b<=D.length)(N:D.length<1000000000)(M:a<1000000000):bJ aa 234 [] [q] [.own q,.pd (I a),.pd (I b),.pd CMP] [] [(q,dK D)] (QL q (nD a (b-(a+1)) (a+1) D)):=by
 refine bJ.mk Tryz.func234 λw G K=>?_;apply ev8;simp only [go_sem,wrapN (k:=a) qk];refine R.fU (λ(p:Nat×LL) s=>St.lp [0,1,2,3] [(8,.pd (I p.1))] [] [] [] [(q,dK p.2)] s) (λ(p:Nat×LL)=>a<p.1/\(a+1<=b->p.1<=b)/\p.2.length=D.length/\nD a (b-p.1) p.1 p.2=nD a (b-(a+1)) (a+1) D) (λ(p:Nat×LL)=>b-p.1) ((a+1,D)) (⟨q6,λh=>h,rfl,rfl⟩) ?_;rintro⟨i,X⟩ ⟨z,l,t,H⟩;simp only at z l t H;refine ac ?_;refine⟨λh=>?_,λh=>?_⟩
 ·have u:i<b:=uu h
  rw [show b-i=b-(i+1)+1 by omega,nD]at H;refine ac ?_;refine R.fU (λ(p:Nat×LL) s=>St.lp [0,1,2,3,8] [(9,.pd (I p.1))] [] [] [] [(q,dK p.2)] s) (λ(p:Nat×LL)=>a<=p.1/\p.1<=i/\p.2.length=D.length/\sO a p.1 p.2=sO a i X) (λ(p:Nat×LL)=>p.1) ((i,X)) (⟨q6,q6,t,rfl⟩) ?_;rintro⟨j,Y⟩ ⟨x,g,e,n⟩;simp only at x g e n
  by_cases C:a<j
  ·have r:decide ((j:Int)>a)=true:=qz
   have f:IntKind.i64.wrap ((j:Int)-1)=((j-1:Nat):Int):=q8;have h1:j<Y.length:=qk;have h2:j-1<Y.length:=qk;refine ac ?_;refine R.dA 14 80 mixed qv ?_;simp only [go_sem,r,f,getD_map,h1,h2];repeat refine⟨qk,?_⟩
   refine R.yg (v:=.pd (I ((Y[j].length:Int)-Y[j-1].length))) (c:=true) rfl rfl qn (ah qn) (λ_=>⟨by simp [qF,Op.operands,Call.operands,aO,St.get,lk,SV.unbox],.iE 22 98 _ _ [.pd (ints Y[j]),.pd (ints Y[j-1])] _ false rfl rfl ze (yT _ _) qr⟩) ?_;refine R.asM 32 qn rfl qr ?_;have m:Y[j]=Y.getD j []:=yp;have E:Y[j-1]=Y.getD (j-1) []:=j7
   have d:sO a j Y=if a<j/\fF (Y.getD j []) (Y.getD (j-1) [])=true then sO a (j-1) (swp j (j-1) Y)else Y:=by
    obtain⟨J,rfl⟩:∃J,j=J+1:=⟨j-1,qk⟩;rw [sO];rfl
   by_cases c2:(Y.getD j []).length<(Y.getD (j-1) []).length
   ·have o:decide (((Y.getD j []).length:Int)-(Y.getD (j-1) []).length<0)=true:=bL qk
    rw [af ⟨C,yy⟩]at d;refine qb m E o ?_;refine ac ?_;refine R.hoist [0,1,2,3,4,5,6,7,8,10,11,12] [[9,13,14,15,16,17],[13,9,14,15,16,17]] mixed qv qv qv qr ?_;simp only [go_sem,Il,AX,pick,wQ,y8,f];refine⟨qk,qk,?_,?_⟩
    all_goals
     apply ev8;simp only [go_sem,getD_map,h1,h2,m,E,sp1,ms,cc,f];repeat refine⟨qk,?_⟩
     refine R.fE (j-1,swp j (j-1) Y) ⟨q6,q6,(vM ..).trans e,by rw [<-n,d]⟩ (by show j-1<j;omega)
   ·have o:decide (((Y.getD j []).length:Int)-(Y.getD (j-1) []).length<0)=false:=b7 qk
    rw [ae (λh=>c2 (by simpa [fF]using h.2))]at d;refine qb m E o ?_;apply ev8;simp only [go_sem,wrapN (k:=i) qk];refine R.fE (i+1,Y) ⟨q6,λ_=>q6,e,by rw [<-H,<-n,d]⟩ (by show b-(i+1)<b-i;omega)
  ·have r:decide ((j:Int)>a)=false:=qz
   have d:sO a j Y=Y:=by
    cases j with
    |zero=>rfl
    |succ j=>rw [sO,ae (λh=>C h.1)]
   refine ac ?_;refine R.dA 14 80 mixed qv ?_;simp only [go_sem,r];repeat refine⟨qk,?_⟩
   apply aj;simp only [go_sem,↓reduceIte,wrapN (k:=i) qk];refine R.fE (i+1,Y) ⟨q6,λ_=>q6,e,by rw [<-H,<-n,d]⟩ (by show b-(i+1)<b-i;omega)
 ·have A:¬i<b:=uu h
  rw [show b-i=0 by omega,nD]at H;refine ac ?_;refine R.oX [] [(q,dK X)] [] ?_;intro _ _;exact⟨rfl,rfl,rfl,by rw [H]⟩
def Bj:aF aa 235:=λ_ _=>qq
def bs(p:Nat->Bool)(i j:Nat):Nat:=
 if i<j then(if p ((i+j)/2)=true then bs p ((i+j)/2+1) j else bs p i ((i+j)/2))else i
termination_by j-i
def Uj(p:Nat->Bool)(i j:Nat)(h:i<=j):i<=bs p i j/\bs p i j<=j:=by
 induction H:j-i using eS generalizing i j with
 |_ n a=>
  rw [bs]
  split
  ·split
   ·have:=a (j-((i+j)/2+1)) qk ((i+j)/2+1) j qk rfl
    omega
   ·have:=a ((i+j)/2-i) qk i ((i+j)/2) qk rfl
    omega
  ·omega
def Gt:Nat->Nat->LL->LL
 |0,_,D=>D
 |n+1,k,D=>Gt n (k+1) (swp k (k+1) D)
def Gu:Nat->Nat->LL->LL
 |0,_,D=>D
 |n+1,k,D=>Gu n (k-1) (swp k (k-1) D)
def Pk(n k:Nat)(D:LL):(Gt n k D).length=D.length:=by
 induction n generalizing k D with
 |zero=>rfl
 |succ n i=>rw [Gt,i,vM]
def Pp(n k:Nat)(D:LL):(Gu n k D).length=D.length:=by
 induction n generalizing k D with
 |zero=>rfl
 |succ n i=>rw [Gu,i,vM]
def sy1(a m b:Nat)(D:LL):Nat:=bs (λh=>fF (D.getD h []) (D.getD a [])) m b
def sy2(a m:Nat)(D:LL):Nat:=bs (λh=>!fF (D.getD m []) (D.getD h [])) a m
def Oz(a m b:Nat)(D:LL):Nat:=bs (λc=>!fF (D.getD ((a+b)/2+m-1-c) []) (D.getD c [])) (if(a+b)/2<m then(a+b)/2+m-b else a) (if(a+b)/2<m then(a+b)/2 else m)
def x9(m s e:Nat)(D:LL):LL:=if s<m/\m<e then Em m (m-s) (e-m) D else D
def qA:Nat->Nat->Nat->Nat->LL->LL
 |0,_,_,_,D=>D
 |f+1,a,m,b,D=>
  if m-a=1 then Gt (sy1 a m b D-1-a) a D else if b-m=1 then Gu (m-sy2 a m D) m D
  else
   let s:=Oz a m b D
   let e:=x9 m s ((a+b)/2+m-s) D
   let d:=if a<s/\s<(a+b)/2 then qA f a s ((a+b)/2) e else e
   if(a+b)/2<(a+b)/2+m-s/\(a+b)/2+m-s<b then qA f ((a+b)/2) ((a+b)/2+m-s) b d else d
def MJ(m s e:Nat)(D:LL):(x9 m s e D).length=D.length:=by
 unfold x9;split
 ·exact Qu ..
 ·rfl
def kK(f a m b:Nat)(D:LL):(qA f a m b D).length=D.length:=by
 induction f generalizing a m b D with
 |zero=>rfl
 |succ f i=>
  rw [qA]
  split
  ·exact Pk ..
  ·split
   ·exact Pp ..
   ·simp only
    split<;>(try rw [i])<;>split<;>(try rw [i])<;>exact MJ ..
abbrev nW(q f:Nat):Prop:=∀(a m b:Nat) (D:LL),a<m->m<b->b<=D.length->D.length<1000000000->b-a<=f->bJ aa 235 [] [q] [.own q,.pd (I a),.pd (I m),.pd (I b),.pd CMP] [] [(q,dK D)] (QL q (qA f a m b D))
def Tm(q f:Nat)(ih:nW q f):nW q (f+1):=by
 intro a m b D h1 h2 h3 hD hf;have w1:IntKind.i64.wrap ((m:Int)-a)=((m-a:Nat):Int):=q8;have w2:IntKind.i64.wrap ((b:Int)-m)=((b-m:Nat):Int):=q8;rw [qA];refine bJ.mk Tryz.func235 λw G rb=>?_
 by_cases c1:m-a=1
 ·have d1:(((m-a:Nat):Int)==1)=true:=qz
  rw [af c1];refine zz w1 d1 ?_;have hs:=Uj (λh=>fF (D.getD h []) (D.getD a [])) m b qk;refine R.fU (λ(d:Nat×Nat) s=>St.lp [0,1,2,3,4] [(10,.pd (I d.1)),(11,.pd (I d.2))] [] [] [q] [] s) (λ(d:Nat×Nat)=>m<=d.1/\d.1<=d.2/\d.2<=b/\bs (λh=>fF (D.getD h []) (D.getD a [])) d.1 d.2=sy1 a m b D) (λ(d:Nat×Nat)=>d.2-d.1) ((m,b)) (⟨q6,q6,q6,rfl⟩) ?_;rintro⟨i,j⟩ ⟨N,x,M,H⟩;simp only at N x M H;rw [bs]at H;refine ac ?_;refine⟨λh=>?_,λh=>?_⟩
  ·have o:i<j:=uu h
   rw [af o]at H;have l:IntKind.i64.wrap ((i:Int)+(j:Int))=((i+j:Nat):Int):=kg;have hx:(i+j)/2<D.length:=qk;have U:a<D.length:=qk;have J:D[(i+j)/2]=D.getD ((i+j)/2) []:=ub;have E:D[a]=D.getD (a) []:=by simp [U]
   have wm:IntKind.i64.wrap ((((i+j)/2:Nat):Int)+1)=(((i+j)/2+1:Nat):Int):=wrapN qk;apply ev8;simp only [ev,ev1,ay,tZ,yu,aO,SV.unbox,iW,St.get,St.put,St.set,lk,up,dN,Yh,mz,mC,reduceCtorEq,a7,ba,ia,bX,ef,eL,eq_self,NU,Yl,JK,JL,l,PY (n:=i+j) qk];refine⟨qu,?_⟩
   skip
   refine R.dA 9 80 mixed qv ?_;simp only [go_sem,getD_map,hx,U];repeat refine⟨qk,?_⟩
   refine R.y rfl (ah qn) (.iE 40 98 _ _ [.pd (ints D[(i+j)/2]),.pd (ints D[a])] _ false rfl rfl ze (yT _ _) qr) ?_
   by_cases c2:(D.getD ((i+j)/2) []).length<(D.getD (a) []).length
   ·have v:decide (((D.getD ((i+j)/2) []).length:Int)-(D.getD (a) []).length<0)=true:=bL qk
    have K:fF (D.getD ((i+j)/2) []) (D.getD (a) [])=true:=yy;simp only [K,a7]at H;apply aj;simp only [go_sem,↓reduceIte,J,E,v,wm];refine R.fE ((i+j)/2+1,j) ⟨q6,q6,M,H⟩
   ·have v:decide (((D.getD ((i+j)/2) []).length:Int)-(D.getD (a) []).length<0)=false:=b7 qk
    have K:fF (D.getD ((i+j)/2) []) (D.getD (a) [])=false:=y6;simp only [K,b6,ba]at H;refine qb J E v ?_;refine R.fE (i,(i+j)/2) ⟨N,q6,q6,H⟩
  ·have he:i=j:=by
    have h:¬i<j:=uu h;omega
   rw [ae qk]at H;subst he;rw [<-H];have wi:IntKind.i64.wrap ((i:Int)-1)=((i-1:Nat):Int):=q8;refine ac ?_;refine R.fU (λ(p:Nat×LL) s=>St.lp [0,1,2,3,4,10] [(13,.pd (I p.1))] [] [] [] [(q,dK p.2)] s) (λ(p:Nat×LL)=>p.1<=i-1/\p.2.length=D.length/\Gt (i-1-p.1) p.1 p.2=Gt (i-1-a) a D) (λ(p:Nat×LL)=>i-1-p.1) ((a,D)) (⟨q6,rfl,rfl⟩) ?_;rintro⟨k,X⟩ ⟨hk,O,T⟩;simp only at hk O T;refine z5 wi ?_;refine⟨λh=>?_,λh=>?_⟩
   ·have o:k<i-1:=uu h
    have wk:IntKind.i64.wrap ((k:Int)+1)=((k+1:Nat):Int):=wrapN qk;have g1:k<X.length:=qk;have g2:k+1<X.length:=qk;have J:X[k]=X.getD k []:=by simp [g1]
    have E:X[k+1]=X.getD (k+1) []:=by simp [g2]
    rw [show i-1-k=i-1-(k+1)+1 by omega,Gt]at T;refine ac ?_;refine R.hoist [0,1,2,3,4,5,6,7,8,10,11,12] [[9,13,14,15,16,17],[13,9,14,15,16,17]] mixed qv qv qv qr ?_;simp only [go_sem,Il,AX,pick,wQ,y8,wk];refine⟨qk,qk,?_,?_⟩
    all_goals
     apply ev8;simp only [go_sem,getD_map,g1,g2,J,E,sp1,ms,cc,wk];repeat refine⟨qk,?_⟩
     refine R.fE (k+1,swp k (k+1) X) ⟨q6,(vM ..).trans O,T⟩ (by show i-1-(k+1)<i-1-k;omega)
   ·have hge:¬k<i-1:=uu h
    rw [show i-1-k=0 by omega,Gt]at T;refine ac ?_;refine R.rX [] [(q,dK X)] [] ?_;intro _ _;exact⟨rfl,rfl,rfl,by rw [T]⟩
 have d1:(((m-a:Nat):Int)==1)=false:=qz;rw [ae c1]
 by_cases c2:b-m=1
 ·have v:(((b-m:Nat):Int)==1)=true:=qz
  rw [af c2];apply aj;simp only [go_sem,↓reduceIte,w1,d1,w2,v];have hs:=Uj (λh=>!fF (D.getD m []) (D.getD h [])) a m qk;refine R.fU (λ(d:Nat×Nat) s=>St.lp [0,1,2,3,4] [(14,.pd (I d.1)),(15,.pd (I d.2))] [] [] [q] [] s) (λ(d:Nat×Nat)=>a<=d.1/\d.1<=d.2/\d.2<=m/\bs (λh=>!fF (D.getD m []) (D.getD h [])) d.1 d.2=sy2 a m D) (λ(d:Nat×Nat)=>d.2-d.1) ((a,m)) (⟨q6,q6,q6,rfl⟩) ?_;rintro⟨i,j⟩ ⟨N,x,M,H⟩;simp only at N x M H;rw [bs]at H;refine ac ?_;refine⟨λh=>?_,λh=>?_⟩
  ·have o:i<j:=uu h
   rw [af o]at H;have l:IntKind.i64.wrap ((i:Int)+(j:Int))=((i+j:Nat):Int):=kg;have hx:m<D.length:=qk;have U:(i+j)/2<D.length:=qk;have J:D[m]=D.getD (m) []:=ub;have E:D[(i+j)/2]=D.getD ((i+j)/2) []:=by simp [U]
   have wm:IntKind.i64.wrap ((((i+j)/2:Nat):Int)+1)=(((i+j)/2+1:Nat):Int):=wrapN qk;apply ev8;simp only [ev,ev1,ay,tZ,yu,aO,SV.unbox,iW,St.get,St.put,St.set,lk,up,dN,Yh,mz,mC,reduceCtorEq,a7,ba,ia,bX,ef,eL,eq_self,NU,Yl,JK,JL,l,PY (n:=i+j) qk];refine⟨qu,?_⟩
   skip
   refine R.dA 9 80 mixed qv ?_;simp only [go_sem,getD_map,hx,U];repeat refine⟨qk,?_⟩
   refine R.y rfl (ah qn) (.iE 92 98 _ _ [.pd (ints D[m]),.pd (ints D[(i+j)/2])] _ false rfl rfl ze (yT _ _) qr) ?_
   by_cases c2:(D.getD (m) []).length<(D.getD ((i+j)/2) []).length
   ·have v:decide (((D.getD (m) []).length:Int)-(D.getD ((i+j)/2) []).length<0)=true:=bL qk
    have K:fF (D.getD (m) []) (D.getD ((i+j)/2) [])=true:=yy;simp only [K,bS,b6,ba]at H;apply aj;simp only [go_sem,↓reduceIte,J,E,v,bS];refine R.fE (i,(i+j)/2) ⟨N,q6,q6,H⟩
   ·have v:decide (((D.getD (m) []).length:Int)-(D.getD ((i+j)/2) []).length<0)=false:=b7 qk
    have K:fF (D.getD (m) []) (D.getD ((i+j)/2) [])=false:=y6;simp only [K,cH,a7]at H;apply aj;simp only [go_sem,↓reduceIte,J,E,v,wm,cH];refine R.fE ((i+j)/2+1,j) ⟨q6,q6,M,H⟩
  ·have he:i=j:=by
    have h:¬i<j:=uu h;omega
   rw [ae qk]at H;subst he;rw [<-H];refine ac ?_;refine R.fU (λ(p:Nat×LL) s=>St.lp [0,1,2,3,4,14] [(17,.pd (I p.1))] [] [] [] [(q,dK p.2)] s) (λ(p:Nat×LL)=>i<=p.1/\p.1<=m/\p.2.length=D.length/\Gu (p.1-i) p.1 p.2=Gu (m-i) m D) (λ(p:Nat×LL)=>p.1) ((m,D)) (⟨q6,q6,rfl,rfl⟩) ?_;rintro⟨k,X⟩ ⟨hk,hkm,O,T⟩;simp only at hk hkm O T;refine ac ?_;refine⟨λh=>?_,λh=>?_⟩
   ·have o:i<k:=uu h
    have wk:IntKind.i64.wrap ((k:Int)-1)=((k-1:Nat):Int):=q8;have g1:k<X.length:=qk;have g2:k-1<X.length:=qk;have J:X[k]=X.getD k []:=by simp [g1]
    have E:X[k-1]=X.getD (k-1) []:=by simp [g2]
    rw [show k-i=k-1-i+1 by omega,Gu]at T;refine ac ?_;refine R.hoist [0,1,2,3,4,5,6,7,8,10,11,12] [[9,13,14,15,16,17],[13,9,14,15,16,17]] mixed qv qv qv qr ?_;simp only [go_sem,Il,AX,pick,wQ,y8,wk];refine⟨qk,qk,?_,?_⟩
    all_goals
     apply ev8;simp only [go_sem,getD_map,g1,g2,J,E,sp1,ms,cc,wk];repeat refine⟨qk,?_⟩
     refine R.fE (k-1,swp k (k-1) X) ⟨q6,q6,(vM ..).trans O,T⟩ (by show k-1<k;omega)
   ·have hge:¬i<k:=uu h
    rw [show k-i=0 by omega,Gu]at T;refine ac ?_;refine R.rX [] [(q,dK X)] [] ?_;intro _ _;exact⟨rfl,rfl,rfl,by rw [T]⟩
 have v:(((b-m:Nat):Int)==1)=false:=qz;rw [ae c2];have hab:IntKind.i64.wrap ((a:Int)+b)=((a+b:Nat):Int):=kg;have hsh:IntKind.i64.wrap ((IntKind.u64.wrap ((a+b:Nat):Int)).fdiv (2 ^ min (Int.toNat 1) 64))=(((a+b)/2:Nat):Int):=PY (n:=a+b) qk;obtain⟨mid,L⟩:∃mid,(a+b)/2=mid:=⟨_,rfl⟩;have wn:IntKind.i64.wrap ((mid:Int)+m)=((mid+m:Nat):Int):=kg;have wp:IntKind.i64.wrap (((mid+m:Nat):Int)-1)=((mid+m-1:Nat):Int):=q8
 by_cases c4:mid<m
 ·have d4:decide ((m:Int)>mid)=true:=bL qk
  have wnb:IntKind.i64.wrap (((mid+m:Nat):Int)-b)=((mid+m-b:Nat):Int):=q8;have A:Oz a m b D=bs (λc=>!fF (D.getD (mid+m-1-c) []) (D.getD c [])) (mid+m-b) mid:=by unfold Oz;rw [L,af c4,af c4]
  have hb:mid+m-b<=mid/\mid<=m/\mid+m<=mid+m-b+b/\a<=mid+m-b:=qk;apply aj;simp only [go_sem,↓reduceIte,w1,d1,w2,v,hab,hsh,L,wn,wp,d4,wnb];refine⟨qu,?_⟩;obtain⟨hb1,hb2,hb3,hb4⟩:=hb;have hs:=Uj (λc=>!fF (D.getD (mid+m-1-c) []) (D.getD c [])) (mid+m-b) (mid) hb1;rw [<-A]at hs;refine R.fU (λ(d:Nat×Nat) s=>St.lp [0,1,2,3,4,18,19,22] [(20,.pd (I d.1)),(21,.pd (I d.2))] [] [] [q] [] s) (λ(d:Nat×Nat)=>mid+m-b<=d.1/\d.1<=d.2/\d.2<=mid/\bs (λc=>!fF (D.getD (mid+m-1-c) []) (D.getD c [])) d.1 d.2=bs (λc=>!fF (D.getD (mid+m-1-c) []) (D.getD c [])) (mid+m-b) (mid)) (λ(d:Nat×Nat)=>d.2-d.1) ((mid+m-b,mid)) (⟨q6,q6,q6,rfl⟩) ?_;rintro⟨i,j⟩ ⟨N,x,M,H⟩;simp only at N x M H;rw [bs]at H;refine ac ?_;refine⟨λh=>?_,λh=>?_⟩
  ·have o:i<j:=uu h
   rw [af o]at H;have l:IntKind.i64.wrap ((i:Int)+(j:Int))=((i+j:Nat):Int):=kg;have hx:mid+m-1-(i+j)/2<D.length:=qk;have U:(i+j)/2<D.length:=qk;have J:D[mid+m-1-(i+j)/2]=D.getD (mid+m-1-(i+j)/2) []:=ub;have E:D[(i+j)/2]=D.getD ((i+j)/2) []:=by simp [U]
   have wm:IntKind.i64.wrap ((((i+j)/2:Nat):Int)+1)=(((i+j)/2+1:Nat):Int):=wrapN qk;apply ev8;simp only [ev,ev1,ay,tZ,yu,aO,SV.unbox,iW,St.get,St.put,St.set,lk,up,dN,Yh,mz,mC,reduceCtorEq,a7,ba,ia,bX,ef,eL,eq_self,NU,Yl,JK,JL,l,PY (n:=i+j) qk];refine⟨qu,?_⟩;have wq:IntKind.i64.wrap (((mid+m-1:Nat):Int)-(((i+j)/2:Nat):Int))=((mid+m-1-(i+j)/2:Nat):Int):=q8;refine R.dA 11 80 mixed qv ?_;simp only [go_sem,getD_map,hx,U,wq];repeat refine⟨qk,?_⟩
   refine R.y rfl (ah qn) (.iE 158 98 _ _ [.pd (ints D[mid+m-1-(i+j)/2]),.pd (ints D[(i+j)/2])] _ false rfl rfl ze (yT _ _) qr) ?_
   by_cases c2:(D.getD (mid+m-1-(i+j)/2) []).length<(D.getD ((i+j)/2) []).length
   ·have v:decide (((D.getD (mid+m-1-(i+j)/2) []).length:Int)-(D.getD ((i+j)/2) []).length<0)=true:=bL qk
    have K:fF (D.getD (mid+m-1-(i+j)/2) []) (D.getD ((i+j)/2) [])=true:=yy;simp only [K,bS,b6,ba]at H;apply aj;simp only [go_sem,↓reduceIte,J,E,v,bS];refine R.fE (i,(i+j)/2) ⟨N,q6,q6,H⟩
   ·have v:decide (((D.getD (mid+m-1-(i+j)/2) []).length:Int)-(D.getD ((i+j)/2) []).length<0)=false:=b7 qk
    have K:fF (D.getD (mid+m-1-(i+j)/2) []) (D.getD ((i+j)/2) [])=false:=y6;simp only [K,cH,a7]at H;apply aj;simp only [go_sem,↓reduceIte,J,E,v,wm,cH];refine R.fE ((i+j)/2+1,j) ⟨q6,q6,M,H⟩
  ·have he:i=j:=by
    have h:¬i<j:=uu h;omega
   rw [ae qk,<-A]at H;subst he;subst H;generalize Oz a m b D=t at*
   have we:IntKind.i64.wrap (((mid+m:Nat):Int)-t)=((mid+m-t:Nat):Int):=q8;generalize hte:mid+m-t=e at*
   have o:t<=m/\t<=e/\m<=e/\e<=b/\mid<b/\a<mid:=qk;clear hs N x M h A hb1 hb2 hb3 hb4
   (refine aJ 9 _ _ ?_;simp only [go_sem,we])
   refine R.mid 1 (λ(X:LL) s=>St.lp [0,1,2,3,4,18,20,24] [] [] [] [] [(q,dK X)] s) (λ(X:LL)=>X=x9 m t e D) ?_ ?_
   ·by_cases u:t<m
    ·have g:decide ((t:Int)<m)=true:=bL qk
     by_cases C:m<e
     ·have r:decide ((m:Int)<e)=true:=bL qk
      refine zz g r ?_;refine R.cX [] [(q,dK D)] [] [q] rfl rfl rfl (λP Z=>Ry q D t m e u C qk qk (.func (.func 98) #[] #[])) rfl (zm zv) V9 ?_;rintro P-dn Q ys z rows ⟨rfl,rfl,rfl,rfl⟩;refine⟨rfl,rfl,⟨⟨_,_,af rfl,af rfl,by simp [Qu],rfl⟩,trivial⟩,?_⟩;refine ac ?_;refine R.pX (Em m (m-t) (e-m) D) (by rw [x9,af ⟨u,C⟩]) q4
     ·have r:decide ((m:Int)<e)=false:=b7 qk
      refine zz g r ?_;refine R.pX (D) (by rw [x9,ae (λh=>C h.2)]) q4
    ·have g:decide ((t:Int)<m)=false:=b7 qk
     refine zw g ?_;refine R.pX (D) (by rw [x9,ae (λh=>u h.1)]) q4
   ·rintro X O
    have En:X.length=D.length:=by rw [O,MJ]
    rw [<-O];clear O
    (refine aJ 1 _ _ ?_;simp only [go_sem])
    refine R.mid 1 (λ(Y:LL) s=>St.lp [0,2,3,4,18,24] [] [] [] [] [(q,dK Y)] s) (λ(Y:LL)=>Y=(if a<t/\t<mid then qA f a t mid X else X)) ?_ ?_
    ·by_cases u:a<t
     ·have g:decide ((a:Int)<t)=true:=bL qk
      by_cases C:t<mid
      ·have r:decide ((t:Int)<mid)=true:=bL qk
       refine zz g r ?_;refine R.cX [] [(q,dK X)] [] [q] rfl rfl rfl (λP Z=>ih a t mid X u C qk qk qk) rfl (zm zv) Bj ?_;rintro P-dn Q ys z rows ⟨rfl,rfl,rfl,rfl⟩;refine⟨rfl,rfl,⟨⟨_,_,af rfl,af rfl,by simp [kK],rfl⟩,trivial⟩,?_⟩;refine ac ?_;refine R.pX (qA f a t mid X) (by rw [af ⟨u,C⟩]) q4
      ·have r:decide ((t:Int)<mid)=false:=b7 qk
       refine zz g r ?_;refine R.pX (X) (by rw [ae (λh=>C h.2)]) q4
     ·have g:decide ((a:Int)<t)=false:=b7 qk
      refine zw g ?_;refine R.pX (X) (by rw [ae (λh=>u h.1)]) q4
    ·rintro Y hY
     have hYl:Y.length=D.length:=by
      rw [hY]
      split
      ·rw [kK,En]
      ·exact En
     rw [<-hY];clear hY
     by_cases u:mid<e
     ·have g:decide ((mid:Int)<e)=true:=bL qk
      by_cases C:e<b
      ·have r:decide ((e:Int)<b)=true:=bL qk
       rw [af ⟨u,C⟩];refine zz g r ?_;refine R.cX [] [(q,dK Y)] [] [q] rfl rfl rfl (λP Z=>ih mid e b Y u C qk qk qk) rfl (zm zv) Bj ?_;rintro P-dn Q ys z rows ⟨rfl,rfl,rfl,rfl⟩;refine⟨rfl,rfl,⟨⟨_,_,af rfl,af rfl,by simp [kK],rfl⟩,trivial⟩,?_⟩;refine ac ?_;refine R.oX [] [(q,dK (qA f mid e b Y))] [] ?_;intro _ _;exact⟨rfl,rfl,rfl,rfl⟩
      ·have r:decide ((e:Int)<b)=false:=b7 qk
       rw [ae (λh=>C h.2)];refine zz g r ?_;refine R.oX [] [(q,dK Y)] [] ?_;intro _ _;exact⟨rfl,rfl,rfl,rfl⟩
     ·have g:decide ((mid:Int)<e)=false:=b7 qk
      rw [ae (λh=>u h.1)];refine zw g ?_;refine R.oX [] [(q,dK Y)] [] ?_;intro _ _;exact⟨rfl,rfl,rfl,rfl⟩
 ·have d4:decide ((m:Int)>mid)=false:=b7 qk
  have A:Oz a m b D=bs (λc=>!fF (D.getD (mid+m-1-c) []) (D.getD c [])) a m:=by unfold Oz;rw [L,ae c4,ae c4]
  have hb:a<=m/\m<=m/\mid+m<=a+b/\a<=a:=qk;apply aj;simp only [go_sem,↓reduceIte,w1,d1,w2,v,hab,hsh,L,wn,wp,d4];refine⟨qu,?_⟩;obtain⟨hb1,hb2,hb3,hb4⟩:=hb;have hs:=Uj (λc=>!fF (D.getD (mid+m-1-c) []) (D.getD c [])) (a) (m) hb1;rw [<-A]at hs;refine R.fU (λ(d:Nat×Nat) s=>St.lp [0,1,2,3,4,18,19,22] [(20,.pd (I d.1)),(21,.pd (I d.2))] [] [] [q] [] s) (λ(d:Nat×Nat)=>a<=d.1/\d.1<=d.2/\d.2<=m/\bs (λc=>!fF (D.getD (mid+m-1-c) []) (D.getD c [])) d.1 d.2=bs (λc=>!fF (D.getD (mid+m-1-c) []) (D.getD c [])) (a) (m)) (λ(d:Nat×Nat)=>d.2-d.1) ((a,m)) (⟨q6,q6,q6,rfl⟩) ?_;rintro⟨i,j⟩ ⟨N,x,M,H⟩;simp only at N x M H;rw [bs]at H;refine ac ?_;refine⟨λh=>?_,λh=>?_⟩
  ·have o:i<j:=uu h
   rw [af o]at H;have l:IntKind.i64.wrap ((i:Int)+(j:Int))=((i+j:Nat):Int):=kg;have hx:mid+m-1-(i+j)/2<D.length:=qk;have U:(i+j)/2<D.length:=qk;have J:D[mid+m-1-(i+j)/2]=D.getD (mid+m-1-(i+j)/2) []:=ub;have E:D[(i+j)/2]=D.getD ((i+j)/2) []:=by simp [U]
   have wm:IntKind.i64.wrap ((((i+j)/2:Nat):Int)+1)=(((i+j)/2+1:Nat):Int):=wrapN qk;apply ev8;simp only [ev,ev1,ay,tZ,yu,aO,SV.unbox,iW,St.get,St.put,St.set,lk,up,dN,Yh,mz,mC,reduceCtorEq,a7,ba,ia,bX,ef,eL,eq_self,NU,Yl,JK,JL,l,PY (n:=i+j) qk];refine⟨qu,?_⟩;have wq:IntKind.i64.wrap (((mid+m-1:Nat):Int)-(((i+j)/2:Nat):Int))=((mid+m-1-(i+j)/2:Nat):Int):=q8;refine R.dA 11 80 mixed qv ?_;simp only [go_sem,getD_map,hx,U,wq];repeat refine⟨qk,?_⟩
   refine R.y rfl (ah qn) (.iE 158 98 _ _ [.pd (ints D[mid+m-1-(i+j)/2]),.pd (ints D[(i+j)/2])] _ false rfl rfl ze (yT _ _) qr) ?_
   by_cases c2:(D.getD (mid+m-1-(i+j)/2) []).length<(D.getD ((i+j)/2) []).length
   ·have v:decide (((D.getD (mid+m-1-(i+j)/2) []).length:Int)-(D.getD ((i+j)/2) []).length<0)=true:=bL qk
    have K:fF (D.getD (mid+m-1-(i+j)/2) []) (D.getD ((i+j)/2) [])=true:=yy;simp only [K,bS,b6,ba]at H;apply aj;simp only [go_sem,↓reduceIte,J,E,v,bS];refine R.fE (i,(i+j)/2) ⟨N,q6,q6,H⟩
   ·have v:decide (((D.getD (mid+m-1-(i+j)/2) []).length:Int)-(D.getD ((i+j)/2) []).length<0)=false:=b7 qk
    have K:fF (D.getD (mid+m-1-(i+j)/2) []) (D.getD ((i+j)/2) [])=false:=y6;simp only [K,cH,a7]at H;apply aj;simp only [go_sem,↓reduceIte,J,E,v,wm,cH];refine R.fE ((i+j)/2+1,j) ⟨q6,q6,M,H⟩
  ·have he:i=j:=by
    have h:¬i<j:=uu h;omega
   rw [ae qk,<-A]at H;subst he;subst H;generalize Oz a m b D=t at*
   have we:IntKind.i64.wrap (((mid+m:Nat):Int)-t)=((mid+m-t:Nat):Int):=q8;generalize hte:mid+m-t=e at*
   have o:t<=m/\t<=e/\m<=e/\e<=b/\mid<b/\a<mid:=qk;clear hs N x M h A hb1 hb2 hb3 hb4
   (refine aJ 9 _ _ ?_;simp only [go_sem,we])
   refine R.mid 1 (λ(X:LL) s=>St.lp [0,1,2,3,4,18,20,24] [] [] [] [] [(q,dK X)] s) (λ(X:LL)=>X=x9 m t e D) ?_ ?_
   ·by_cases u:t<m
    ·have g:decide ((t:Int)<m)=true:=bL qk
     by_cases C:m<e
     ·have r:decide ((m:Int)<e)=true:=bL qk
      refine zz g r ?_;refine R.cX [] [(q,dK D)] [] [q] rfl rfl rfl (λP Z=>Ry q D t m e u C qk qk (.func (.func 98) #[] #[])) rfl (zm zv) V9 ?_;rintro P-dn Q ys z rows ⟨rfl,rfl,rfl,rfl⟩;refine⟨rfl,rfl,⟨⟨_,_,af rfl,af rfl,by simp [Qu],rfl⟩,trivial⟩,?_⟩;refine ac ?_;refine R.pX (Em m (m-t) (e-m) D) (by rw [x9,af ⟨u,C⟩]) q4
     ·have r:decide ((m:Int)<e)=false:=b7 qk
      refine zz g r ?_;refine R.pX (D) (by rw [x9,ae (λh=>C h.2)]) q4
    ·have g:decide ((t:Int)<m)=false:=b7 qk
     refine zw g ?_;refine R.pX (D) (by rw [x9,ae (λh=>u h.1)]) q4
   ·rintro X O
    have En:X.length=D.length:=by rw [O,MJ]
    rw [<-O];clear O
    (refine aJ 1 _ _ ?_;simp only [go_sem])
    refine R.mid 1 (λ(Y:LL) s=>St.lp [0,2,3,4,18,24] [] [] [] [] [(q,dK Y)] s) (λ(Y:LL)=>Y=(if a<t/\t<mid then qA f a t mid X else X)) ?_ ?_
    ·by_cases u:a<t
     ·have g:decide ((a:Int)<t)=true:=bL qk
      by_cases C:t<mid
      ·have r:decide ((t:Int)<mid)=true:=bL qk
       refine zz g r ?_;refine R.cX [] [(q,dK X)] [] [q] rfl rfl rfl (λP Z=>ih a t mid X u C qk qk qk) rfl (zm zv) Bj ?_;rintro P-dn Q ys z rows ⟨rfl,rfl,rfl,rfl⟩;refine⟨rfl,rfl,⟨⟨_,_,af rfl,af rfl,by simp [kK],rfl⟩,trivial⟩,?_⟩;refine ac ?_;refine R.pX (qA f a t mid X) (by rw [af ⟨u,C⟩]) q4
      ·have r:decide ((t:Int)<mid)=false:=b7 qk
       refine zz g r ?_;refine R.pX (X) (by rw [ae (λh=>C h.2)]) q4
     ·have g:decide ((a:Int)<t)=false:=b7 qk
      refine zw g ?_;refine R.pX (X) (by rw [ae (λh=>u h.1)]) q4
    ·rintro Y hY
     have hYl:Y.length=D.length:=by
      rw [hY]
      split
      ·rw [kK,En]
      ·exact En
     rw [<-hY];clear hY
     by_cases u:mid<e
     ·have g:decide ((mid:Int)<e)=true:=bL qk
      by_cases C:e<b
      ·have r:decide ((e:Int)<b)=true:=bL qk
       rw [af ⟨u,C⟩];refine zz g r ?_;refine R.cX [] [(q,dK Y)] [] [q] rfl rfl rfl (λP Z=>ih mid e b Y u C qk qk qk) rfl (zm zv) Bj ?_;rintro P-dn Q ys z rows ⟨rfl,rfl,rfl,rfl⟩;refine⟨rfl,rfl,⟨⟨_,_,af rfl,af rfl,by simp [kK],rfl⟩,trivial⟩,?_⟩;refine ac ?_;refine R.oX [] [(q,dK (qA f mid e b Y))] [] ?_;intro _ _;exact⟨rfl,rfl,rfl,rfl⟩
      ·have r:decide ((e:Int)<b)=false:=b7 qk
       rw [ae (λh=>C h.2)];refine zz g r ?_;refine R.oX [] [(q,dK Y)] [] ?_;intro _ _;exact⟨rfl,rfl,rfl,rfl⟩
     ·have g:decide ((mid:Int)<e)=false:=b7 qk
      rw [ae (λh=>u h.1)];refine zw g ?_;refine R.oX [] [(q,dK Y)] [] ?_;intro _ _;exact⟨rfl,rfl,rfl,rfl⟩
def KR(q f:Nat):nW q f:=by
 induction f with
 |zero=>intro a m b D d H _ _ h;omega
 |succ f i=>exact Tm q f i
def DA:aF aa 144:=λ_ _=>qq
def Me:aF aa 97:=λ_ _=>qq
abbrev pm(a b:Nat)(D:LL):LL:=nD a (b-(a+1)) (a+1) D
def st1(n a b:Nat)(D:LL):LL:=if b<=n then st1 n b (b+20) (pm a b D)else pm a n D
termination_by n+1-b
def st2(n z a b:Nat)(D:LL):LL:=
 if b<=n/\0<z then st2 n z b (b+2*z) (qA b a (a+z) b D)else if a+z<n then qA n a (a+z) n D else D
termination_by n+1-b
def xw(n z:Nat)(D:LL):LL:=if z<n/\0<z then xw n (2*z) (st2 n z 0 (2*z) D)else D
termination_by n-z
def Bl(D:LL):LL:=xw D.length 20 (st1 D.length 0 20 D)
def Pr(n a b:Nat)(D:LL):(st1 n a b D).length=D.length:=by
 induction h:n+1-b using eS generalizing a b D with
 |_ k i=>
  rw [st1]
  split
  ·rw [i (n+1-(b+20)) qk _ _ _ rfl,sQ]
  ·exact sQ ..
def Ps(n z a b:Nat)(D:LL):(st2 n z a b D).length=D.length:=by
 induction h:n+1-b using eS generalizing a b D with
 |_ k i=>
  rw [st2]
  split
  ·rw [i (n+1-(b+2*z)) qk _ _ _ rfl,kK]
  ·split
   ·exact kK ..
   ·rfl
def Pt(n z:Nat)(D:LL):(xw n z D).length=D.length:=by
 induction h:n-z using eS generalizing z D with
 |_ k i=>
  rw [xw]
  split
  ·rw [i (n-2*z) qk _ _ rfl,Ps]
  ·rfl
def MK(D:LL):(Bl D).length=D.length:=by rw [Bl,Pt,Pr]
def Wi(q:Nat)(D:LL)(Z:D.length<1000000000):bJ aa 144 [] [q] [.own q,.pd (I D.length),.pd CMP] [] [(q,dK D)] (QL q (Bl D)):=by
 refine bJ.mk Tryz.func144 λw G rb=>?_;generalize P:D.length=n at Z;refine ac ?_;refine R.fU (λ(p:Nat×Nat×LL) s=>St.lp [0,1,2,6] [(7,.pd (I p.1)),(8,.pd (I p.2.1))] [] [] [] [(q,dK p.2.2)] s) (λ(p:Nat×Nat×LL)=>p.1<=n/\p.1<p.2.1/\p.2.1<=p.1+20/\p.2.2.length=n/\st1 n p.1 p.2.1 p.2.2=st1 n 0 20 D) (λ(p:Nat×Nat×LL)=>n+20-p.2.1) ((0,20,D)) (⟨q6,q6,q6,P,rfl⟩) ?_;rintro⟨a,b,X⟩ ⟨K,J,U,j,H⟩;simp only at K J U j H;rw [st1]at H;refine ac ?_;refine⟨λh=>?_,λh=>?_⟩
 ·have t:b<=n:=uu h
  rw [af t]at H;have A:IntKind.i64.wrap ((b:Int)+20)=((b+20:Nat):Int):=kl;refine ac ?_;refine R.cX [] [(q,dK X)] [] [q] rfl rfl rfl (λf g=>IB q X a b qk qk qk) rfl zv Wh ?_;rintro f-L r x v rows ⟨rfl,rfl,rfl,rfl⟩;refine⟨rfl,rfl,⟨⟨_,_,af rfl,af rfl,by simp [sQ],rfl⟩,trivial⟩,?_⟩;refine z5 A ?_;refine R.fE (b,b+20,pm a b X) ⟨t,q6,q6,(sQ ..).trans j,H⟩ (by show n+20-(b+20)<n+20-b;omega)
 have E:¬b<=n:=uu h;rw [ae E]at H;refine ac ?_;refine R.cX [] [(q,dK X)] [] [q] rfl rfl rfl (λf g=>IB q X a n qk qk qk) rfl zv Wh ?_;rintro f-L r x v rows ⟨rfl,rfl,rfl,rfl⟩;refine⟨rfl,rfl,⟨⟨_,_,af rfl,af rfl,by simp [sQ],rfl⟩,trivial⟩,?_⟩;have Q:(nD a (n-(a+1)) (a+1) X).length=n:=(sQ ..).trans j;have k:Bl D=xw n 20 (nD a (n-(a+1)) (a+1) X):=by rw [Bl,P,<-H]
 rw [k];clear k H;generalize nD a (n-(a+1)) (a+1) X=Y at Q⊢;clear j;refine ac ?_;refine R.fU (λ(p:Nat×LL) s=>St.lp [0,1,2] [(6,.pd (I p.1))] [] [] [] [(q,dK p.2)] s) (λ(p:Nat×LL)=>20<=p.1/\p.1<=2*n+20/\p.2.length=n/\xw n p.1 p.2=xw n 20 Y) (λ(p:Nat×LL)=>2*n+20-p.1) ((20,Y)) (⟨q6,q6,Q,rfl⟩) ?_;rintro⟨z,X⟩ ⟨T,C,j,H⟩;simp only at T C j H;rw [xw]at H;refine ac ?_;refine⟨λh=>?_,λh=>?_⟩
 ·have t:z<n:=uu h
  rw [af ⟨t,qk⟩]at H;have O:IntKind.i64.wrap (2*(z:Int))=((2*z:Nat):Int):=kl;have N:IntKind.i64.wrap ((z:Int)*2)=((2*z:Nat):Int):=q8;refine z5 O ?_;refine R.fU (λ(p:Nat×Nat×LL) s=>St.lp [0,1,2,6] [(7,.pd (I p.1)),(8,.pd (I p.2.1))] [] [] [] [(q,dK p.2.2)] s) (λ(p:Nat×Nat×LL)=>p.1<=n/\p.2.1=p.1+2*z/\p.2.2.length=n/\st2 n z p.1 p.2.1 p.2.2=st2 n z 0 (2*z) X) (λ(p:Nat×Nat×LL)=>n+2*z-p.1) ((0,2*z,X)) (⟨q6,q6,j,rfl⟩) ?_;rintro⟨a,b,V⟩ ⟨K,l,u,d⟩;simp only at K l u d;subst l;rw [st2]at d;have M:IntKind.i64.wrap ((a:Int)+z)=((a+z:Nat):Int):=kl;refine ac ?_;refine⟨λo=>?_,λo=>?_⟩
  ·have e:a+2*z<=n:=by
    have o:((a+2*z:Nat):Int)<=n:=uu o;omega
   rw [af ⟨e,qk⟩]at d;have A:IntKind.i64.wrap (((a+2*z:Nat):Int)+((2*z:Nat):Int))=((a+2*z+2*z:Nat):Int):=kl;refine z5 M ?_;refine R.cX [] [(q,dK V)] [] [q] rfl rfl rfl (λf g=>KR q (a+2*z) a (a+z) (a+2*z) V qk qk qk qk qk) rfl (zm zv) Bj ?_;rintro f-L r x v rows ⟨rfl,rfl,rfl,rfl⟩;refine⟨rfl,rfl,⟨⟨_,_,af rfl,af rfl,by simp [kK],rfl⟩,trivial⟩,?_⟩;apply ev8;simp only [go_sem,O,A];refine R.fE (a+2*z,a+2*z+2*z,qA (a+2*z) a (a+z) (a+2*z) V) ⟨e,rfl,(kK ..).trans u,d⟩ (by show n+2*z-(a+2*z)<n+2*z-a;omega)
  ·have e:¬a+2*z<=n:=by
    have o:¬((a+2*z:Nat):Int)<=n:=uu o;omega
   rw [ae (λh=>e h.1)]at d;refine z5 M ?_;refine⟨λm=>?_,λm=>?_⟩
   ·have i:a+z<n:=by
     have m:((a+z:Nat):Int)<n:=uu m;omega
    rw [af i]at d;refine ac ?_;refine R.cX [] [(q,dK V)] [] [q] rfl rfl rfl (λf g=>KR q n a (a+z) n V qk qk qk qk qk) rfl (zm zv) Bj ?_;rintro f-L r x v rows ⟨rfl,rfl,rfl,rfl⟩;refine⟨rfl,rfl,⟨⟨_,_,af rfl,af rfl,by simp [kK],rfl⟩,trivial⟩,?_⟩;refine z5 N ?_;refine R.fE (2*z,qA n a (a+z) n V) ⟨q6,q6,(kK ..).trans u,by rw [<-H,<-d]⟩ (by show 2*n+20-2*z<2*n+20-z;omega)
   ·have i:¬a+z<n:=by
     have m:¬((a+z:Nat):Int)<n:=uu m;omega
    rw [ae i]at d;refine z5 N ?_;refine R.fE (2*z,V) ⟨q6,q6,u,by rw [<-H,<-d]⟩ (by show 2*n+20-2*z<2*n+20-z;omega)
 ·have IC:¬z<n:=uu h
  rw [ae (λh=>IC h.1)]at H;refine ac ?_;refine R.oX [] [(q,dK X)] [] ?_;intro _ _;exact⟨rfl,rfl,rfl,by rw [H]⟩
def Tn(q:Nat)(D:LL)(H:D.length<1000000000):bJ aa 97 [] [q] [.own q,.pd CMP] [] [(q,dK D)] (QL q (Bl D)):=by
 refine bJ.mk Tryz.func97 λw G a=>?_;refine ac ?_;refine R.cX [] [(q,dK D)] [] [q] rfl rfl rfl (λb h=>Wi q D H) rfl zt DA ?_;rintro b-d r s v rows ⟨rfl,rfl,rfl,rfl⟩;refine⟨rfl,rfl,⟨⟨_,_,af rfl,af rfl,by simp [MK],rfl⟩,trivial⟩,?_⟩;refine ac ?_;refine R.oX [] [(q,dK (Bl D))] [] ?_;intro _ _;exact⟨rfl,rfl,rfl,rfl⟩
def DB(l:List Int)(e:l.length<1000000000):bJ aa 143 [] [] [.pd (ints l)] [] [] (λ_ res xs vars rows=>res= .ret/\xs=[.own 1005]/\vars=[]/\rows=[(1005,⟨3,1,l.map I⟩)]):=by
 refine bJ.mk Tryz.func143 λw G d=>?_;refine ac ?_;intro b a;refine⟨λh=>?_,λh=>?_⟩
 ·have H:l=[]:=uu (a h)
  subst H;refine ac ?_;refine R.mV 2 1005 3 1 qn rfl rfl ?_;refine ac ?_;refine R.rX [] [(1005,⟨3,1,[].map I⟩)] [.own 1005] ?_;intro _ _;exact⟨rfl,rfl,rfl,rfl⟩
 ·refine ac ?_
  refine R.append (r:=⟨3,1,[]⟩) (es:=l.map I) rfl rfl (ah qn) rfl rfl rfl rfl sl35 rfl zq qr (congrArg (Option.map List.length) Gz) rfl (λi hi=>xt) (by show _*iQ aa 3<=_;rw [Gy];simp;omega) kb ?_;refine ac ?_;refine R.rX [] [(1005,⟨3,1,l.map I⟩)] [.own 1005] ?_;intro _ _;exact⟨rfl,rfl,rfl,rfl⟩
def Pu(l:List Int)(H:l.length<1000000000):bg aa 96 [.pd (ints l)] [ints (mD l)]:=by
 refine bg.mk Tryz.func96 λw G=>?_;refine ac ?_;refine R.cX [] [] [] [] rfl rfl rfl (λb h=>DB l H) rfl zp Fo ?_;rintro b-d r s v rows ⟨rfl,rfl,rfl,rfl⟩;refine⟨rfl,rfl,trivial,?_⟩;refine ac ?_;refine R.TY VI Zr (λ_=>rfl) l rfl rfl qn rfl rfl qk ?_;refine ac ?_;refine R.Vf VI xL (λ_=>rfl) (l.mergeSort λx y=>decide (x<=y)) rfl rfl qn rfl rfl rfl (by rw [gA];omega) ?_;refine ac ?_;refine R.dI 1005 rfl rfl ?_;simp only [go_sem];refine R.rW ?_;rw [<-P9];rfl
end Go.Proofs.Z
