/- A part of the proof. -/
import Derived.Test.YtgeljjfmcmbejaaGreatDoorPTk1
set_option linter.all false
set_option linter.deprecated false
open Go.Fence renaming wide→cF
set_option maxRecDepth 100000
set_option maxHeartbeats 4000000
namespace Go.au
variable {id d n:Nat}{vc:Prop}{v:Value}{x:Operand}{r e:Nat->Option (Nat×Nat)}{stop:Int->Bool}{args:List SV}{vars:List (Nat×List SV)}{f:FuncId}{pn ids:List Nat}{Q:(Nat->Nat)->mg->List SV->List (Nat×List SV)->List (Nat×Row)->Prop}{G:Pub}
section
variable {C:Cx}{s:St}{a:Act}{w w':World}{E:Env}{P:Program}{k:List KI}{all:Array Oper}{l:List Oper}{o:Oper}
def Bc(C:Cx)(all:Array Oper)(k:List KI)(l:List Oper)(s:St):Prop:=∀a w E,aB C s a w E->wpListIn cF 0 C.P all (fin C k) l a w
def R.VW{o:Array Oper}(h:Bc C o k o.toList s):R C (.code (.region id o false)::k) s:=λa w E g=>wpIn_wide.1 (wpIn_region_list (h a w E g))
def Bc.step{v:SV}(b:o.guard=none)(h:ay C.P (aO s) s.var s.row o.op=some (vc,v))(A:vc)(d:dN s o)(next:Bc C all k l (s.put o.dst v.unbox)):Bc C all k (o::l) s:=by
 intro a w E g;obtain⟨u,H,r⟩:=Y0 g (λx _=>aT g x) h A;refine wpListIn_plain b λK e=>⟨λf _=>trivial,?_⟩;rw [show cF.round=none from rfl,Oper.semAt_none,H,Oper.uponIn_value];exact e _ _ (next _ _ _ (g.eY (ah d) r.unbox (qM _)))
def FP(C:Cx)(all:Array Oper)(k:List KI):List Oper->St->Prop
 | [],s=>R C k s
 |o::l,s=>match o.guard,ay C.P (aO s) s.var s.row o.op with
  |none,some x=>x.1/\dN s o/\FP C all k l (s.put o.dst x.2.unbox)
  |_,_=>Bc C all k (o::l) s
def xY:∀(l:List Oper) (s:St),FP C all k l s->Bc C all k l s
 | [],s,h=>λa w E g=>h a w E g
 |o::l,s,h=>by
  simp only [FP]at h
  split at h
  ·rename_i x b H
   exact Bc.step b (vc:=x.1) (v:=x.2) (by rw [H]) h.1 h.2.1 (xY l _ h.2.2)
  ·exact h
def Rounds(P:Program)(a:World)(mu:Nat->Prop)(r:Nat)(o g:Obj)(stop:Int->Bool):Prop:=
 ∀W (i:Int),Kept false mu a W->W.heap[r]? =some o->YieldAt cF 0 P r #[.int .i64 i] W λe b=>e= .returned (.bool (!stop i))/\b=setB W r (if stop i then g else o)
abbrev yR(r:Nat):SV:=.pd (.raw (.func (.yield r) #[] #[]))
abbrev two(r:Nat)(x:Obj)(d:Nat)(y:Obj):List (Nat×dQ):=[(r,.obj x),(d,.obj y)]
def mO(x:Obj):Prop:=∀C e d,x≠.cells C e d
def Bc.yield{y:Operand}{T:Array TypeId}{r:Nat}{O q v:Obj}{i:Int}(U:o.op= .call ⟨.value x,#[y],T⟩)(Z:o.guard=none)(hd:dN s o)
  (P:aO s x=yR r)(N:aO s y= .pd (.raw (.int .i64 i)))(hm:s.maps=two r O d v)(j:r≠d)(hS:mO q)(Q:C.w0.heap.size<=r)(hY:Rounds C.P C.w0 C.mu r O q stop)
  (next:Bc C all k l ({s with maps:=two r (if stop i then q else O) d v}.put o.dst (.pd (.raw (.bool (!stop i)))))):Bc C all k (o::l) s:=by
 intro a w E g;have e1:a.eval x= .func (.yield r) #[] #[]:=aH.aC (w:=w) (G:=E.G) (by have:=aT g x;rw [P]at this;exact this);have e2:a.eval y= .int .i64 i:=aH.aC (w:=w) (G:=E.G) (by have:=aT g y;rw [N]at this;exact this);obtain⟨p,h,m⟩:=g.maps r (.obj O) (by simp [St.map,hm,lk]);obtain⟨M,L,J⟩:=g.maps d (.obj v) (by simp only [St.map,hm,lk,ae j,a7]);obtain⟨fn,t,A,u,n,Bd⟩:=hY w i ⟨g.kept.os,g.kept.tape,g.kept.output,g.kept.size,g.kept.block,nofun⟩ h;refine wpListIn_plain Z λK hK=>⟨λf _=>trivial,?_⟩;rw [show cF.round=none from rfl,Oper.semAt_none]
 have D:(execOp a.eval o).run C.P w= .ok (.round r fn t A u) w:=by
  unfold execOp;simp only [U,resolve,e1,Deferred.ofValue,Sem.run_bind,Sem.run_pure,Result.andThen_ok,cA,ap,ax,e2];simpa [invoke]using n
 rw [D,Oper.uponIn_round];refine⟨nofun,Bd.mono ?_⟩;rintro e w' ⟨rfl,rfl⟩;refine hK _ _ (next _ _ E (aB.eY (E:=E) (s:={s with maps:=two r (if stop i then q else O) d v}) ?_ (ah hd) (Rd.raw _ rfl) nofun));have X:mO (if stop i then q else O):=by split;exact hS;exact m
 refine g.setB h m p (.inl Q) _ _ λb z H=>?_;simp only [lk]at H
 split at H
 ·rename_i e;subst e;cases H
  exact⟨p,by simp [setB,(bm.1 h).1],X⟩
 ·split at H
  ·rename_i e;subst e;cases H
   exact⟨M,by rw [dU (bt j)];exact L,J⟩
  ·cases H
def Cj(P:Program)(w:World)(G:Pub)(bs:List (Nat×Nat))(a:Nat->Option (Nat×Nat))(ids pn:List Nat)(r d:Nat)(o g i:Obj)(Q:Bool->List (Nat×List SV)->List (Nat×Row)->Prop)(e:Ending)(w':World):Prop:=
 ∃b v rows E,Q b v rows/\aB (Cx.fv P w G (λ_ _ _=>True) bs a ids pn) {St.of [] v rows with maps:=two r (if b then g else o) d i} ⟨#[],[]⟩ w' E/\e= .returned (.tuple #[])/\
  (v.all λp=>p.2.all (SV.within (keys bs++keys v) (keys rows)))=true
def ItV(P:Program)(f:FuncId)(bs:List (Nat×Nat))(pn:List Nat)(args:List SV)(vars:List (Nat×List SV))(rows:List (Nat×Row))(stop:Int->Bool)(Q:Bool->List (Nat×List SV)->List (Nat×Row)->Prop):Prop:=
 aF P f/\∀a w E (vals:Array Value) r d o g i,r≠d->a.heap.size<=r->mO o->mO g->mO i->
  aB (Cx.fv P a E.G (λ_ _ _=>True) bs E.rb (keys rows) pn) {St.of (yR r::args) vars rows with maps:=two r o d i} ⟨vals,[]⟩ w E->
  Rounds P a (Cx.fv P a E.G (λ_ _ _=>True) bs E.rb (keys rows) pn).mu r o g stop->Calls P f vals w (Cj P a E.G bs E.rb (keys rows) pn r d o g i Q)
def aB.Z9{rows:List (Nat×Row)}{ms:List (Nat×dQ)}{vals:Array Value}(g:aB C {St.of args vars rows with maps:=ms} ⟨vals,[]⟩ w E)(H:args.length<=n):
  aB C ⟨n,slotsOf 0 args,vars,rows,ms,[]⟩ ⟨vals++Array.replicate (n-vals.size) undef,[]⟩ w E:=
 ((g.yx [] (λb x h=>xc)).long H).yx ms g.maps
def ItV.mk{fn:Func}{c:Code}{bs:List (Nat×Nat)}{rows:List (Nat×Row)}{Q:Bool->List (Nat×List SV)->List (Nat×Row)->Prop}(l:P.funcs[f]? =some fn)(n:fn.body=some c)(m:aF P f)(H:args.length+1<=fn.ntmps)
  (h:∀w G j r d o b i,r≠d->w.heap.size<=r->mO b->∀C:Cx,C=Cx.fv P w G (bodyPost P fn (Cj P w G bs j (keys rows) pn r d o b i Q)) bs j (keys rows) pn->Rounds P w C.mu r o b stop->
   R C [.code c] ⟨fn.ntmps,slotsOf 0 (yR r::args),vars,rows,two r o d i,[]⟩):ItV P f bs pn args vars rows stop Q:=by
 refine⟨m,λk w E vals r d o b i t s v q u g p=>calls_of_wp l n ?_⟩;have:=h k E.G E.rb r d o b i t s q _ rfl p _ w E ((g.Z9 (uu H)).post _);simp only [fin]at this;exact wp_mono this (λe a w h=>h)
def R.y9{fn:Func}{e:World}{bs:List (Nat×Nat)}{f:Nat->Option (Nat×Nat)}{r:Nat}{o l k:Obj}{Q:Bool->List (Nat×List SV)->List (Nat×Row)->Prop}(b:Bool)(vars:List (Nat×List SV))(rows:List (Nat×Row))(H:fn.results= #[])
  (n:Q b vars rows)(hm:s.maps=two r (if b then l else o) d k)(v:∀t cs,lk t vars=some cs->s.var t=some cs)(m:∀i r,lk i rows=some r->s.row i=some r)
  (q:(vars.all λp=>p.2.all (SV.within (keys bs++keys vars) (keys rows)))=true)(g:aB (Cx.fv P e G (bodyPost P fn (Cj P e G bs f ids pn r d o l k Q)) bs f ids pn) s a w E):
  (Cx.fv P e G (bodyPost P fn (Cj P e G bs f ids pn r d o l k Q)) bs f ids pn).post .ret a w:=by
 refine⟨g.defers,?_⟩;have u:=(g.part (xs:=[]) (vs:=[]) rfl (λj hj=>vq) v m rfl).yx (two r (if b then l else o) d k) (λb x h=>by rw [<-hm]at h;exact g.maps b x h);refine⟨.tuple #[],by simp [results,H],b,vars,rows,E,n,u.post _,rfl,q⟩
def R.rI{fn:Func}{a:World}{bs:List (Nat×Nat)}{r:Nat}{o f i:Obj}{Q:Bool->List (Nat×List SV)->List (Nat×Row)->Prop}(b:Bool)(vars:List (Nat×List SV))(rows:List (Nat×Row))(h:fn.results= #[])
  (l:Q b vars rows)(hm:s.maps=two r (if b then f else o) d i)(H:Has s.var vars)(j:Has s.row rows)
  (m:(vars.all λp=>p.2.all (SV.within (keys bs++keys vars) (keys rows)))=true):R (Cx.fv P a G (bodyPost P fn (Cj P a G bs e ids pn r d o f i Q)) bs e ids pn) (.code .ret::k) s:=
 R.ret λ_ _ _ g=>R.y9 b vars rows h l hm H.lk j.lk m g
def R.oI{fn:Func}{a:World}{bs:List (Nat×Nat)}{r:Nat}{o f i:Obj}{Q:Bool->List (Nat×List SV)->List (Nat×Row)->Prop}(b:Bool)(vars:List (Nat×List SV))(rows:List (Nat×Row))(h:fn.results= #[])
  (k:Q b vars rows)(hm:s.maps=two r (if b then f else o) d i)(H:Has s.var vars)(j:Has s.row rows)
  (l:(vars.all λp=>p.2.all (SV.within (keys bs++keys vars) (keys rows)))=true):R (Cx.fv P a G (bodyPost P fn (Cj P a G bs e ids pn r d o f i Q)) bs e ids pn) [] s:=
 R.over λ_ _ _ g=>R.y9 b vars rows h k hm H.lk j.lk l g
def oC(r:Loop):mO (.loop r):=λ_ _ _ h=>xa
abbrev oD(fn:FuncId)(tmps:Array Value)(ps:Array Tmp)(assign body:Code)(d:Nat)(st:LoopState)(pe:Option Code):Obj:=.loop {state:=st,pending:=pe,fn,tmps,params:=ps,assign,body,defers:=d}
abbrev kF(d:Nat):Deferred:={target:=.collected d,args:=#[]}
def R.R9(hk:lW k=true)(hdf:C.df=[])(Z:C.dr=false)(hms:s.maps=[]){g:Operand}{p:Array Tmp}{A j:Code}{caps:List Nat}{aW:List (Nat×List SV)}{bH:List (Nat×Row)}(T:List Nat){Q:Bool->List (Nat×List SV)->List (Nat×Row)->Prop}
  (P:aO s g= .clo f caps)(hit:∀vb:Nat->Nat,(∀t b,C.vb0 t=some b->vb t=b)->ItV C.P f ((keys aW).map λt=>(t,vb t)) pn (caps.map λt=>.aA t 0) aW bH stop Q)
  (hv:∀t cs,lk t aW=some cs->s.var t=some cs)(hr:∀i r,lk i bH=some r->s.row i=some r)(K:∀t,T.contains t=true->C.vb0 t=none)(hrb:∀i,oN i pn=false->C.fP i=none)
  (Bd:∀a w E fn,aB C s a w E->Rounds C.P w (Cx.fv C.P w E.G (λ_ _ _=>True) ((keys aW).map λt=>(t,E.vb t)) E.rb (keys bH) pn).mu (w.heap.size+1) (oD fn a.tmps p A j w.heap.size .ready none) (oD fn a.tmps p A j w.heap.size .done (some (.exit id))) stop)
  (next:∀b vars rows,Q b vars rows->((keys vars).all λt=>(keys aW).contains t||T.contains t)=true/\Dj s.row rows pn/\∀d,C.w0.heap.size<=d->R (C.oQ (kF d) C.vb0) k {s.took (keys aW) (keys bH) T pn vars rows with maps:=[(d,.obj (.deferred (some [])))]}):
  R C (.code (.rangeFunc g p A j) :: .inBlock id::k) s:=by
 intro a w E G;show(Code.rangeFunc g p A j).wp C.P (fin C (.inBlock id::k)) a w;refine(wpIn_wide (n:=0)).1 (wpIn_rangeFunc λfn _=>?_);have z:a.defers=[]:=G.defers.trans hdf;have U:a.eval g= .func (.func f) #[] (caps.map λt=>.pointer (some ⟨E.vb t,0,none⟩)).toArray:=by have:=aT G g;rw [P]at this;simpa [Rel]using this
 obtain⟨l,H⟩:∃l,(w.alloc (.deferred (some []))).alloc (oD fn a.tmps p A j w.heap.size .ready none)=l:=⟨_,rfl⟩
 have hL1:l.heap[w.heap.size+1]? =some (oD fn a.tmps p A j w.heap.size .ready none):=by
  rw [<-H];have:=World.alloc_heap_new (w.alloc (.deferred (some []))) (oD fn a.tmps p A j w.heap.size .ready none);rwa [World.size_alloc]at this
 have hK1:l.heap[w.heap.size]? =some (.deferred (some [])):=by
  rw [<-H];exact(Go.RowKit.Below.heap_alloc _ _ _ qr).trans (World.alloc_heap_new w _)
 have hb1:Below w.heap.size w l:=by
  rw [<-H];exact(bF w _).trans ((bF (w.alloc _) _).mono qr)
 refine⟨w.heap.size+1,[kF w.heap.size],l,{target:=.fn (.func f) (caps.map λt=>.pointer (some ⟨E.vb t,0,none⟩)).toArray,args:=#[.func (.yield (w.heap.size+1)) #[] #[]]},l,f,
  #[.func (.yield (w.heap.size+1)) #[] #[]]++(caps.map λt=>.pointer (some ⟨E.vb t,0,none⟩)).toArray,l,?_,?_,λ_ _=>trivial,?_,nofun,callsIn_wide.2 ?_⟩
 ·rw [<-H];exact run_enterLoop_outer _ _ _ _ _
 ·simp only [resolve,U]
  simp [go_sem]
 ·have:=(hit E.vb (λt b h=>G.aZ t b h)).1 (#[.func (.yield (w.heap.size+1)) #[] #[]]++(caps.map λt=>Value.pointer (some ⟨E.vb t,0,none⟩)).toArray) l
  simpa [invoke]using this
 have gE:=G.oo (args:=yR (w.heap.size+1)::caps.map λt=>.aA t 0) (vals:=#[.func (.yield (w.heap.size+1)) #[] #[]]++(caps.map λt=>Value.pointer (some ⟨E.vb t,0,none⟩)).toArray) (by simp []) (λi hi=>by
  cases i with
  |zero=>exact⟨by simpa [Array.getD,Rel]using(show aH w E.G (.func (.yield (w.heap.size+1)) #[] #[]) (.raw (.func (.yield (w.heap.size+1)) #[] #[]))from Rd.raw _ rfl),nofun⟩
  |succ i=>
   simp only [List.length_cons,al]at hi;have h1:i<caps.length:=qk;refine⟨?_,?_⟩
   ·simp [ag,aL,h1,Rel]
   ·simp [ag,h1]) hv hr pn rfl
 have gW:=gE.grow hb1 E.G (λ_ _ h=>h) (λ_ _ h=>.inl h);have Nz:∀b,w.heap.size<=b->∀o,¬E.G b o:=λb hb o h=>by have:=G.gw b o h;omega
 have gM:=gW.yx (two (w.heap.size+1) (oD fn a.tmps p A j w.heap.size .ready none) w.heap.size (.deferred (some []))) (λb x h=>by
  simp only [lk]at h
  split at h
  ·rename_i e;subst e;cases h
   exact⟨Nz _ qk,hL1,nofun⟩
  ·split at h
   ·rename_i e;subst e;cases h
    exact⟨Nz _ qk,hK1,nofun⟩
   ·cases h)
 refine((hit E.vb (λt b h=>G.aZ t b h)).2 w l E _ (w.heap.size+1) w.heap.size _ _ _ qk qk (oC _) (oC _) (λ_ _ _ h=>xa) gM (Bd a w E fn G)).mono ?_;rintro e J ⟨b,vars,rows,E',hQ,g',rfl,h2⟩;rw [PO]at h2;obtain⟨hG1,q,_⟩:=g'.maps (w.heap.size+1) (.obj (if b then oD fn a.tmps p A j w.heap.size .done (some (.exit id))else oD fn a.tmps p A j w.heap.size .ready none)) (by simp only [St.map,lk,a7]);obtain⟨hG2,N,M⟩:=g'.maps w.heap.size (.obj (.deferred (some []))) (by simp only [St.map,lk,ae (by omega:¬w.heap.size+1=w.heap.size),a7]);obtain⟨O,X,v⟩:=next b vars rows hQ
 have key:∀x,∃u,aB (C.oQ (kF w.heap.size) C.vb0) {s.took (keys aW) (keys bH) T pn vars rows with maps:=[(w.heap.size,.obj (.deferred (some [])))]} {a with defers:=[kF w.heap.size]} (setB J (w.heap.size+1) x) u:=λx=>by
  have g4:=g'.setB q (by cases b<;>exact oC _) hG1 (.inl (by show w.heap.size<=_;omega)) x [] (λb y h=>xc)
  obtain⟨u,D,_,_,hG⟩:=G.UR pn Z hv hr g4 h2 T (λt L=>by
   have L:(keys vars).contains t=true:=L;have h3:=(aM.1 O) t (uu L);simp only [du]at h3;exact h3.imp (λx=>x) λx=>⟨x,K t x⟩) (λi h _=>hrb i h) X
  have g5:=D.yx [(w.heap.size,.obj (.deferred (some [])))] (λb y h=>by
   simp only [lk]at h
   split at h
   ·rename_i e;subst e;cases h
    exact⟨λo=>by rw [hG];exact hG2 o,by rw [dU qk];exact N,M⟩
   ·cases h)
  exact⟨u,g5.oQ (λt b h=>g5.aZ t b h)⟩
 have m:fin (C.oQ (kF w.heap.size) C.vb0) k=fin C k:=jg (C:=C) (C2:=C.oQ (kF w.heap.size) C.vb0) rfl rfl k hk
 cases b with
 |false=>
  obtain⟨u,D⟩:=key (oD fn a.tmps p A j w.heap.size .exhausted none);refine⟨none,_,run_endLoop q nofun,?_⟩;have:=v w.heap.size G.kept.size _ _ u D;rw [m]at this;show fin C k .normal {a with defers:=[kF w.heap.size]++a.defers} (setB J _ _);rw [z];exact this
 |true=>
  obtain⟨u,D⟩:=key (oD fn a.tmps p A j w.heap.size .exhausted (some (.exit id)));refine⟨some (.exit id),_,run_endLoop q nofun,?_⟩;have:=v w.heap.size G.kept.size _ _ u D;rw [m]at this;refine wpIn_exit ?_;simp only [fin,a7];show fin C k .normal {a with defers:=[kF w.heap.size]++a.defers} (setB J _ _);rw [z];exact this
def bJ.mkM{fn:Func}{c:Code}{bs:List (Nat×Nat)}{rows:List (Nat×Row)}(b:P.funcs[f]? =some fn)(i:fn.body=some c)(d:aF P f)(H:args.length<=fn.ntmps)
  (h:∀w G r,R (Cx.fv P w G (bodyPostM cF 0 P fn (iG P w G bs r (keys rows) pn Q)) bs r (keys rows) pn) [.code c] ⟨fn.ntmps,slotsOf 0 args,vars,rows,[],[]⟩):bJ P f bs pn args vars rows Q:=by
 refine⟨d,λw E vals g=>(callsIn_wide (n:=0)).1 (callsIn_of_wp_marks b i trivial (wpIn_wide.2 ?_))⟩;have:=h w E.G E.rb _ w E ((g.long H).post _);simp only [fin]at this;exact wp_mono this (λe a w h=>h)
def R.rVM{fn:Func}{d:World}{bs:List (Nat×Nat)}(vars:List (Nat×List SV))(rows:List (Nat×Row))(xs:List SV)
  (h:resV P s fn.results.toList=some (True,xs))(f:∀vb:Nat->Nat,(∀t b,lk t bs=some b->vb t=b)->Q vb .ret xs vars rows)(H:Has s.var vars)(e:Has s.row rows)
  (j:xs.all (SV.within (keys bs++keys vars) (keys rows))=true)(i:(vars.all λp=>p.2.all (SV.within (keys bs++keys vars) (keys rows)))=true):R (Cx.fv P d G (bodyPostM cF 0 P fn (iG P d G bs r ids pn Q)) bs r ids pn) (.code .ret::k) s:=
 R.ret λa w E g=>by
  show LeavesInM _ _ _ _ _ _ a.defers _ _;rw [show a.defers=[]from g.defers];exact yP vars rows h trivial f H.lk e.lk j i g
def Cm(s:St)(ms:List (Nat×dQ)):∀l:List ResultVar,resV P {s with maps:=ms} l=resV P s l
 | []=>rfl
 | .tmp t::l=>by simp only [resV,Cm s ms l];rfl
 | .cell t T::l=>by simp only [resV,Cm s ms l];rfl
def R.asY{fn:Func}{d:World}{bs:List (Nat×Nat)}(vars:List (Nat×List SV))(rows:List (Nat×Row))(xs:List SV)
  (h:resV P s fn.results.toList=some (vc,xs))(A:vc)(f:∀vb:Nat->Nat,(∀t b,lk t bs=some b->vb t=b)->Q vb .ret xs vars rows)(H:Has s.var vars)(e:Has s.row rows)
  (j:xs.all (SV.within (keys bs++keys vars) (keys rows))=true)(i:(vars.all λp=>p.2.all (SV.within (keys bs++keys vars) (keys rows)))=true):R (Cx.fv P d G (bodyPostM cF 0 P fn (iG P d G bs r ids pn Q)) bs r ids pn) (.code .ret::k) s:=
 R.ret λa w E g=>by
  show LeavesInM _ _ _ _ _ _ a.defers _ _;rw [show a.defers=[]from g.defers];exact yP vars rows h A f H.lk e.lk j i g
def R.rVD{fn:Func}{e:World}{bs:List (Nat×Nat)}(vars:List (Nat×List SV))(rows:List (Nat×Row))(xs:List SV)
  (hm:s.maps=[(d,.obj (.deferred (some [])))])(l:e.heap.size<=d)
  (h:resV P s fn.results.toList=some (True,xs))(m:∀vb:Nat->Nat,(∀t b,lk t bs=some b->vb t=b)->Q vb .ret xs vars rows)(v:Has s.var vars)(j:Has s.row rows)
  (o:xs.all (SV.within (keys bs++keys vars) (keys rows))=true)(n:(vars.all λp=>p.2.all (SV.within (keys bs++keys vars) (keys rows)))=true):
  R ((Cx.fv P e G (bodyPostM cF 0 P fn (iG P e G bs r ids pn Q)) bs r ids pn).oQ (kF d) (Cx.fv P e G (bodyPostM cF 0 P fn (iG P e G bs r ids pn Q)) bs r ids pn).vb0) (.code .ret::k) s:=
 R.ret λa w E g=>by
  show LeavesInM _ _ _ _ _ _ a.defers _ _;rw [show a.defers=[kF d]from g.defers];obtain⟨i,H,f⟩:=g.maps d (.obj (.deferred (some []))) (by simp only [St.map,hm,lk,a7]);refine⟨nofun,.inl ⟨d,_,rfl,run_takeDeferred H,?_⟩⟩;have q:=(g.ZN rfl (λt b h=>h)).setB H f i (.inl l) (.deferred none) [] (λb y h=>xc);exact yP (s:={s with maps:=[]}) (a:={a with defers:=[]}) (w:=setB w d (.deferred none)) vars rows (by rw [<-h];exact Cm s [] _) trivial m v.lk j.lk o n q
def R.yU{fn:Func}{e:World}{bs:List (Nat×Nat)}(vars:List (Nat×List SV))(rows:List (Nat×Row))(xs:List SV)
  (hm:s.maps=[(d,.obj (.deferred (some [])))])(l:e.heap.size<=d)
  (h:resV P s fn.results.toList=some (vc,xs))(A:vc)(m:∀vb:Nat->Nat,(∀t b,lk t bs=some b->vb t=b)->Q vb .ret xs vars rows)(v:Has s.var vars)(j:Has s.row rows)
  (o:xs.all (SV.within (keys bs++keys vars) (keys rows))=true)(n:(vars.all λp=>p.2.all (SV.within (keys bs++keys vars) (keys rows)))=true):
  R ((Cx.fv P e G (bodyPostM cF 0 P fn (iG P e G bs r ids pn Q)) bs r ids pn).oQ (kF d) (Cx.fv P e G (bodyPostM cF 0 P fn (iG P e G bs r ids pn Q)) bs r ids pn).vb0) (.code .ret::k) s:=
 R.ret λa w E g=>by
  show LeavesInM _ _ _ _ _ _ a.defers _ _;rw [show a.defers=[kF d]from g.defers];obtain⟨i,H,f⟩:=g.maps d (.obj (.deferred (some []))) (by simp only [St.map,hm,lk,a7]);refine⟨nofun,.inl ⟨d,_,rfl,run_takeDeferred H,?_⟩⟩;have q:=(g.ZN rfl (λt b h=>h)).setB H f i (.inl l) (.deferred none) [] (λb y h=>xc);exact yP (s:={s with maps:=[]}) (a:={a with defers:=[]}) (w:=setB w d (.deferred none)) vars rows (by rw [<-h];exact Cm s [] _) A m v.lk j.lk o n q
def Bf{F:Fence}{Q:Exit->Act->World->Prop}(d:∀f,F.fn f)(g:o.guard=none)(H:∀c,o.op≠.defer c)(h:(execOp a.eval o).run P w= .ok (.value v) w)(next:wpListIn F n P all Q l (a.put o.dst v) w):wpListIn F n P all Q (o::l) a w:=
 wpListIn_plain g λK b=>⟨λf _=>d f,by rw [Oper.semAt_eq _ _ _ H,h];exact b _ _ next⟩
def tb(h:o.op= .move x):(execOp a.eval o).run P w= .ok (.value (a.eval x)) w:=by unfold execOp;simp only [h];rfl
def VX(h:o.op= .assign x):(execOp a.eval o).run P w= .ok (.value (a.eval x)) w:=by unfold execOp;simp only [h];rfl
def Om{t:TypeId}{ad:Addr}(h:o.op= .load t x)(H:a.eval x= .pointer (some ad))(k:aQ P t=true)(d:bT P t=false)(b:w.cell? ad=some v):(execOp a.eval o).run P w= .ok (.value v) w:=by
 unfold execOp;simp [h,H,Instr.loadAt,Instr.sureAddr,qC k d b]
def t2{op:BinOp}{t ty:TypeId}{y:Operand}{u r:Value}(h:o.op= .binOp op t x y ty)(b:a.eval x=u)(H:a.eval y=v)(e:u.oneCell'=true)(d:v.oneCell'=true)(f:yu P op t (.pd (.raw u)) (.pd (.raw v))=some (vc,.pd (.raw r)))(A:vc):(execOp a.eval o).run P w= .ok (.value r) w:=by
 let E:Env:=⟨λ_ _=>False,λ_=>0,λ_=>none,λ_=>0⟩
 obtain⟨z,i,g⟩:=Lr (P:=P) (w:=w) (E:=E) (row:=λ_=>none) f A (show aH w E.G u (.raw u)from Rd.raw _ e) (show aH w E.G v (.raw v)from Rd.raw _ d) x y;have:z=r:=aH.aC (show aH w E.G z (.raw r)from g);subst this;unfold execOp;simp only [h,b,H];rw [Sem.run_bind,i];rfl
def R.clr(t:Nat)(h:R C k (s.set t .dead)):R C k s:=
 R.weak (s':=s.set t .dead) ⟨rfl,λj=>by rw [St.fO];split;exact .dead _;exact .same _,λt a h=>⟨a,h,rfl,λ_ _=>.same _⟩,λ_ _ h=>h,λ_ _ h=>h,λ_=>.same _⟩ h
def gU.kW{Q:List Nat}{T:List Oper}{l:List (Oper×Option Nat)}{xs:Array Operand}{a:Array TypeId}{rs:List PD}{b:Bool}(r:C.dr=false)(j:bg C.P f args rs)(d:o.op= .call ⟨.value (.func f),xs,a⟩)(g:o.guard=none)
  (n:iD C.P (jl Q s.vars) (TN Q s.rows) (xs.toList.map (aO s)) args b)(e:b=true->plain rs=true)(m:dN s o)(next:gU C all Q T k l (s.put o.dst (eX rs))):gU C all Q T k ((o,none)::l) s:=by
 have H:(s.hide Q).row=TN Q s.rows:=funext λi=>LH Q s i;have h:(s.hide Q).var=jl Q s.vars:=funext λt=>by simp only [St.var,St.hide,bn,dh,jl]
 exact⟨_,.inl ⟨g,.o7 f xs a args rs b r d (by rw [H,h];exact n) j e⟩,.inr ⟨g,by rw [d];trivial⟩,ah m,λq _=>by unfold eX;split<;>rfl,next⟩
end
end Go.au
