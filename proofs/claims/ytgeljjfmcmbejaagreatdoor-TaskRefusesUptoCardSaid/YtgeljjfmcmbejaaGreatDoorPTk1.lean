/- A part of the proof. -/
import Derived.Test.YtgeljjfmcmbejaaGreatDoorPVs
set_option linter.all false
set_option linter.deprecated false
open Array renaming replicate_zero→fS,replicate→bw
open Go.Op renaming operands→bR
open Go.Proofs.Tryz renaming prog→aa
open Go.Region renaming ready→b4,noSelect→iA
open Go.Result renaming andThen_ok→a8
open Go.Sem renaming run_bind→az,run_pure→aD
open List renaming length_cons→an,length_nil→a9,nil_append→cg,cons_append→bE,replicate→av,range→aw
open Nat renaming lt_irrefl→mA
set_option maxRecDepth 100000
set_option maxHeartbeats 4000000
namespace Go.Proofs.Z
def ZL(p q:Addr)(w:World):
  CallsD aa 53 #[.pointer (some p),.pointer (some q)] .returning w λe u w'=>e= .returned (.tuple #[])/\u= .returning/\w'=w:=by
 refine callsD_of_wpS Tryz.func53 rfl λC s h=>?_;simp only [Tryz.ntmps53,dp,an,a9,Nat.reduceAdd,Nat.reduceSub,fR,fS,fL,fT,cg,bE];apply wpS_seq;apply wpS_region;simp [wpOpsS,go_sem,recoverD,h,Exit.thenS];apply wpS_seq;apply wpS_region;simp [wpOpsS,go_sem,recoverD,h,Exit.thenS];refine wpS_cond (t:=false) rfl ?_;simp only [b6,ba];refine wpS_of_wp (wp_skip ?_)
 cases C
 simp_all [bodyPostS,results,Tryz.results53,Act.put]
def ZM(p q:Addr)(x n:Int)(v:Value)(w:World)(hp:w.cell? p=some v)(hpz:w.frozen? p=false)(hq:w.cell? q=some (.int .i64 n))(hqz:w.frozen? q=false)(hne:p.block≠q.block):
  CallsD aa 53 #[.pointer (some p),.pointer (some q)] (.panicking [{v:=.iface 50 (.int .i64 x),recovered:=false}]) w λe u' w'=>
   e= .returned (.tuple #[])/\u'= .panicking [{v:=.iface 50 (.int .i64 x),recovered:=true}]/\w'=(w.setCell p (.slice none 0 0)).setCell q (.int .i64 x):=by
 refine callsD_of_wpS Tryz.func53 rfl λc₀ cs hu=>?_;simp only [Tryz.ntmps53,dp,an,a9,Nat.reduceAdd,Nat.reduceSub,fR,fS,fL,fT,cg,bE];apply wpS_seq;apply wpS_region;simp [wpOpsS,go_sem,recoverD,hu,Exit.thenS];apply wpS_seq;apply wpS_region;simp [wpOpsS,go_sem,recoverD,Exit.thenS];refine wpS_cond (t:=true) rfl ?_;simp only [a7];refine wpS_of_wp ?_
 have hta:∀w:World,(Instr.typeAssert (.iface 50 (.int .i64 x)) 20 50 true).run aa w= .ok (.tuple #[.int .i64 x,.bool true]) w:=λw=>by
  simp only [Instr.typeAssert,az,run_underlying Tryz.underlying50,a8];rfl
 have hnot:∀w:World,(Op.unary UnOp.not (.bool true)).run aa w= .ok (.bool false) w:=λw=>by first|rfl|simp [Op.unary]
 have hq2:(w.setCell p (.slice none 0 0)).cell? q=some (.int .i64 n):=by
  have hpq:p≠q:=λe=>hne (by rw [e]);rw [World.cell?_setCell_other (h:=hpq)];exact hq
 have avh:(w.setCell p (.slice none 0 0)).frozen? q=false:=by rw [World.frozen?_setCell];exact hqz
 go_wp2
 refine⟨rfl,_,rfl,.tuple #[],?_,rfl,rfl,rfl⟩;exact results_none rfl _ _ _
end Go.Proofs.Z
namespace Go.au
variable {f u:Nat}{T:Array TypeId}{G:Pub}{Q:(Nat->Nat)->mg->List SV->List (Nat×List SV)->List (Nat×Row)->Prop}{vars:List (Nat×List SV)}
def Cx.oQ(C:Cx)(d:Deferred)(vb:Nat->Option Nat):Cx:={C with df:=[d],vb0:=vb}
section
variable {C:Cx}{d:Deferred}{vb:Nat->Option Nat}
def Yx:(C.oQ d vb).P=C.P:=rfl
def aB.oQ{s:St}{a:Act}{w:World}{E:Env}(g:aB C s a w E)(hv:∀t b,vb t=some b->E.vb t=b):aB (C.oQ d vb) s {a with defers:=[d]} w E where
 kept:=g.kept
 aV:=g.aV
 defers:=rfl
 size:=g.size
 g0:=g.g0
 g1:=g.g1
 tab:=g.tab
 gw:=g.gw
 slots:=g.slots
 vars:=g.vars
 rows:=g.rows
 maps:=g.maps
 boxes:=g.boxes
 vv:=g.vv
 rr:=g.rr
 vr:=g.vr
 bb:=g.bb
 bv:=g.bv
 br:=g.br
 aZ:=hv
 bM:=g.bM
 bI:=g.bI
end
section
variable {C:Cx}{s:St}{a:Act}{w:World}{E:Env}{k:List KI}{all:Array Oper}{l:List Oper}{o:Oper}
abbrev jv(u v bu bv:Nat):Nat->Option Nat:=λt=>if t=u then some bu else if t=v then some bv else none
abbrev Dq(f bu bv:Nat):Deferred:=⟨.fn (.func f) #[.pointer (some ⟨bu,0,none⟩),.pointer (some ⟨bv,0,none⟩)],#[]⟩
def R.RW{v:Nat}{x:Operand}(q:lW k=true)(p:o.op= .defer ⟨.value x,#[],T⟩)(r:o.guard=none)(z:o.dst=none)(n:aO s x= .clo f [u,v])(i:C.df=[])
  (next:∀m j,R (C.oQ (Dq f m j) (jv u v m j)) (.ops all l::k) s):R C (.ops all (o::l)::k) s:=by
 intro a w E g;refine wpList_plain r λK D=>?_;have H:=aT g x;rw [n]at H;have H:a.eval x= .func (.func f) #[] #[.pointer (some ⟨E.vb u,0,none⟩),.pointer (some ⟨E.vb v,0,none⟩)]:=by simpa [Rel]using H
 unfold Oper.wp execOp;simp only [p,resolve,H,Deferred.ofValue,az,aD,a8,Oper.upon_defer,z];refine D _ _ ?_;have A:a.defers=[]:=g.defers.trans i
 have G:=g.oQ (d:=Dq f (E.vb u) (E.vb v)) (vb:=jv u v (E.vb u) (E.vb v)) (λt b h=>by
  simp only [jv]at h
  split at h
  ·rename_i e;cases h;rw [e]
  ·split at h
   ·rename_i e;cases h;rw [e]
   ·cases h)
 have:=next (E.vb u) (E.vb v) _ w E G
 have e:fin (C.oQ (Dq f (E.vb u) (E.vb v)) (jv u v (E.vb u) (E.vb v))) k=fin C k:=jg (C:=C) (C2:=C.oQ (Dq f (E.vb u) (E.vb v)) (jv u v (E.vb u) (E.vb v))) rfl rfl k q;have L:({a with defers:=Dq f (E.vb u) (E.vb v)::a.defers}:Act).put none undef={a with defers:=[Dq f (E.vb u) (E.vb v)]}:=by rw [A];rfl
 simp only [cA,ax]at*
 have J:(#[]++ #[]:Array Value)= #[]:=rfl;rw [J];show wpList C.P all (fin C k) l (({a with defers:=Dq f (E.vb u) (E.vb v)::a.defers}:Act).put none undef) w;rw [L,<-e];exact this
def Ik{d:World}{fn:Func}{vc:Prop}{rs:List PD}{Q:jY->Maps->Prop}(g:aB C s a w E)(e:C.w0=d)(k:C.G0=G)(u:∀b,¬C.mu b)(f:C.dr=false)(h:resD C.P s fn.results.toList=some (vc,rs))(A:vc)(j:Q (.ret rs) []):
  ∃v,(results fn a.tmps).run C.P w= .ok v w/\Ny d G [] Q (.returned v) w:=by
 subst e;subst k;obtain⟨p,o,n,l⟩:=rZ g h A;have H:=g.kept;exact⟨_,iH o,.ret rs,[],E.G,j,g.g0,g.g1,g.gw,⟨H.os,H.tape,H.output,H.size,λb i _=>H.block b i (u b),λh=>xa⟩,⟨_,rfl,Yd n l⟩,λr m h=>xc,λr m h=>xc⟩
end
def Fl{P:Program}{n:Nat}{ds:List PD}{w:World}{vals:Array Value}(g:ds.length<=n)(b:Good w G)(s:vals.size=ds.length)(v:∀i,i<ds.length->aH w G (vals.getD i undef) (ds.getD i (.ak []))):
  Seg P w G (St.bZ n (ds.map .pd) []) {tmps:=vals++bw (n-vals.size) undef,defers:=[]} []:=by
 have H:∀t,(St.bZ n (ds.map .pd) []).get t=(ds.map SV.pd).getD t .dead:=by
  intro t;simp only [St.get,St.bZ,mW];simp [ag]
 refine⟨?_,rfl,b,λt d h=>?_,λt=>?_,rfl,rfl,rfl,rfl⟩
 ·simp only [io,pu];show _=n;omega
 ·rw [H]at h
  by_cases a:t<ds.length
  ·have f:t<vals.size:=qk
   have e:(vals++bw (n-vals.size) undef).getD t undef=vals.getD t undef:=by
    simp only [aL,eN f]
   have E:d=ds[t]:=by simpa [a]using h.symm
   show aH w G ((vals++bw (n-vals.size) undef).getD t undef) d;rw [e,E];have:=v t a;simpa [a]using this
  ·simp [a]at h
 ·rw [H]
  by_cases a:t<ds.length
  ·exact .inl ⟨ds[t],by simp [a]⟩
  ·exact .inr (by simp [a])
section
variable {C:Cx}{s:St}{a:Act}{w:World}{E:Env}{P:Program}{k:List KI}{all:Array Oper}{l:List Oper}{o:Oper}
def aB.ZN{d:Deferred}{vb:Nat->Option Nat}(g:aB (C.oQ d vb) s a w E)(hdf:C.df=[])(hv:∀t b,C.vb0 t=some b->vb t=some b):aB C s {a with defers:=[]} w E where
 kept:=g.kept
 aV:=g.aV
 defers:=hdf.symm
 size:=g.size
 g0:=g.g0
 g1:=g.g1
 tab:=g.tab
 gw:=g.gw
 slots:=g.slots
 vars:=g.vars
 rows:=g.rows
 maps:=g.maps
 boxes:=g.boxes
 vv:=g.vv
 rr:=g.rr
 vr:=g.vr
 bb:=g.bb
 bv:=g.bv
 br:=g.br
 aZ:=λt b h=>g.aZ t b (hv t b h)
 bM:=g.bM
 bI:=g.bI
def bJ.mkD{f:FuncId}{fn:Func}{c:Code}{bs:List (Nat×Nat)}{pn:List Nat}{args:List SV}{rows:List (Nat×Row)}(b:P.funcs[f]? =some fn)(i:fn.body=some c)(d:aF P f)(H:args.length<=fn.ntmps)
  (h:∀w G r,R (Cx.fv P w G (bodyPostD P fn (iG P w G bs r (keys rows) pn Q)) bs r (keys rows) pn) [.code c] ⟨fn.ntmps,slotsOf 0 args,vars,rows,[],[]⟩):bJ P f bs pn args vars rows Q:=by
 refine⟨d,λw E vals g=>calls_of_wp_defers b i ?_⟩;have:=h w E.G E.rb _ w E ((g.long H).post _);simp only [fin]at this;exact wp_mono this (λe a w h=>h)
def Yy(u b:Nat)(f:Nat->Option Nat):Nat->Option Nat:=λt=>if t=u then some b else f t
abbrev oq(f bu:Nat):Deferred:=⟨.fn (.func f) #[.pointer (some ⟨bu,0,none⟩)],#[]⟩
def R.Sa{x:Operand}(p:lW k=true)(n:o.op= .defer ⟨.value x,#[],T⟩)(q:o.guard=none)(r:o.dst=none)(m:aO s x= .clo f [u])(i:C.df=[])
  (next:∀j,R (C.oQ (oq f j) (Yy u j C.vb0)) (.ops all l::k) s):R C (.ops all (o::l)::k) s:=by
 intro a w E g;refine wpList_plain q λK v=>?_;have H:=aT g x;rw [m]at H;have H:a.eval x= .func (.func f) #[] #[.pointer (some ⟨E.vb u,0,none⟩)]:=by simpa [Rel]using H
 unfold Oper.wp execOp;simp only [n,resolve,H,Deferred.ofValue,az,aD,a8,Oper.upon_defer,r];refine v _ _ ?_;have A:a.defers=[]:=g.defers.trans i
 have G:=g.oQ (d:=oq f (E.vb u)) (vb:=Yy u (E.vb u) C.vb0) (λt b h=>by
  simp only [Yy]at h
  split at h
  ·rename_i e;cases h;rw [e]
  ·exact g.aZ t b h)
 have:=next (E.vb u) _ w E G
 have e:fin (C.oQ (oq f (E.vb u)) (Yy u (E.vb u) C.vb0)) k=fin C k:=jg (C:=C) (C2:=C.oQ (oq f (E.vb u)) (Yy u (E.vb u) C.vb0)) rfl rfl k p;have D:({a with defers:=oq f (E.vb u)::a.defers}:Act).put none undef={a with defers:=[oq f (E.vb u)]}:=by rw [A];rfl
 simp only [cA,ax]at*
 have z:(#[]++ #[]:Array Value)= #[]:=rfl;rw [z];show wpList C.P all (fin C k) l (({a with defers:=oq f (E.vb u)::a.defers}:Act).put none undef) w;rw [D,<-e];exact this
def yP{fn:Func}{vc:Prop}{xs:List SV}{d:World}{post:Exit->Act->World->Prop}{bs:List (Nat×Nat)}{e:Nat->Option (Nat×Nat)}{ids pn:List Nat}(vars:List (Nat×List SV))(rows:List (Nat×Row))
  (h:resV P s fn.results.toList=some (vc,xs))(A:vc)(k:∀vb:Nat->Nat,(∀t b,lk t bs=some b->vb t=b)->Q vb .ret xs vars rows)(H:∀t cs,lk t vars=some cs->s.var t=some cs)(j:∀i r,lk i rows=some r->s.row i=some r)
  (m:xs.all (SV.within (keys bs++keys vars) (keys rows))=true)(l:(vars.all λp=>p.2.all (SV.within (keys bs++keys vars) (keys rows)))=true)
  (g:aB (Cx.fv P d G post bs e ids pn) s a w E):∃v,(results fn a.tmps).run P w= .ok v w/\iG P d G bs e ids pn Q (.returned v) w:=by
 obtain⟨f,q,o,n⟩:=DX g h A;exact⟨_,iH q,.ret,xs,vars,rows,f.toArray,E,k E.vb (λt b h=>g.aZ t b h),(g.part o n H j rfl).post _,rfl,m,l⟩
def aB.fresh{K:Nat}{x:SV}{t:TypeId}{zs:List Value}{cs:List SV}{rows:List (Nat×Row)}(g:aB C s a w E)(l:s.var u=some [x])(f:C.df=[])(z:C.vb0 K=none)(q:zs.length=cs.length)
  (d:∀j,j<cs.length->(zs.toArray.getD j undef).oneCell'=true/\∀w E row,Rel C.P w E row (zs.toArray.getD j undef) (cs.getD j .dead))
  (v:∀t c,lk t vars=some c->t≠u/\t≠K/\s.var t=some c/\c.map (SV.kill K)=c)(m:∀i r,lk i rows=some r->s.row i=some r):
  ∃E',aB C (St.of [.aA K 0] ((K,cs)::vars) rows) ⟨#[.pointer (some ⟨w.heap.size,0,none⟩)],[]⟩ ((w.alloc (.cells zs.toArray t)).setRow (E.vb u) #[.pointer (some ⟨w.heap.size,0,none⟩)]) E':=by
 have L:aB C s a (w.alloc (.cells zs.toArray t)) E:=g.grow (bF w _) E.G (λ_ _ h=>h) (λ_ _ h=>.inl h)
 have J:=L.store l (cs':=[.dead]) #[.pointer (some ⟨w.heap.size,0,none⟩)] (.eq rfl) (λj H=>by
  obtain rfl:j=0:=uu H;exact⟨rfl,trivial⟩)
 have k:∀t c,lk t vars=some c->(s.setVar u [.dead]).var t=some c:=λt c h=>by
  have:=v t c h;rw [show(s.setVar u [.dead]).var t=s.var t by simp [St.var,St.setVar,jR,this.1]];exact this.2.2.1
 have N:∀j,(av K SV.dead++[SV.dead]).getD j .dead= .dead:=λj=>by
  have:av K SV.dead++[SV.dead]=av (K+1) SV.dead:=by rw [List.replicate_succ']
  rw [this];simp [ag,ie];split<;>rfl
 have D:=J.part (xs:=av K .dead++[.dead]) (vs:=av K undef++[.pointer (some ⟨w.heap.size,0,none⟩)]) (vars:=vars) (rows:=rows) qr (λj _=>by rw [N];exact⟨trivial,λcs h=>xa⟩) k m f
 have G:=D.named (t:=K) (b:=w.heap.size) (cs:=cs) (cur:=zs.toArray) (e:=t) qr ⟨.inl g.kept.size,λo h=>absurd (g.gw _ o h) (mA _),by
   rw [setRow_other _ _ _ _ (λe=>absurd (g.nU l) (by rw [<-e];exact mA _))];show(w.heap.push _)[w.heap.size]? =_;simp⟩ (uu q) (λj H=>⟨(d j H).1,(d j H).2 _ _ _⟩)
  (λT c h _ e=>by
   have:=g.nU (v T c h).2.2.1;rw [e]at this;exact mA _ this)
  (λi r p h n e=>by
   have:=g.ku (m i r h) n;rw [<-e]at this;exact mA _ this)
  (λj c h _=>by rw [qR,N]at h;cases h) z
 refine⟨_,G.part (xs:=[.aA K 0]) (vs:=[.pointer (some ⟨w.heap.size,0,none⟩)]) (vars:=(K,cs)::vars) (rows:=rows) rfl (λj H=>?_) (λt c h=>?_) (λi r h=>h) f⟩
 ·obtain rfl:j=0:=uu H
  have:=G.slots K;rw [St.mQ,af rfl]at this;refine⟨?_,λcs h=>xa⟩;simpa using this
 ·rw [St.EC]
  simp only [lk]at h
  split at h
  ·rename_i e;subst e;rw [af rfl];exact h
  ·rename_i e
   rw [ae (λM=>e M.symm)];have A:=(v t c h).2.2.2;show Option.map _ (lk t vars)=_;rw [h];simp [A]
end
end Go.au
namespace Go.Proofs.Z
open Go.au
def qy(n:Int)(l:List Int)(i:Nat):Bool:=decide (0<=l.getD i 0)&&decide (l.getD i 0<n)&&(i==0||decide (l.getD (i-1) 0<l.getD i 0))
def setB(n:Int)(l:List Int):Bool:=(aw l.length).all (qy n l)
def Uc(k:Nat)(h:k<9223372036854775807):IntKind.i64.wrap ((k:Int)-1)=(k:Int)-1:=wrap64 qk qk
def LZ{p:Nat->Bool}{k:Nat}:(aw (k+1)).all p=((aw k).all p&&p k):=by rw [fz,gn];simp
def Kk(n:Int)(l:List Int):aG aa 46 [.pd (ints l),.pd (I n)] [B (setB n l)]:=by
 refine aG.mk Tryz.func46 λw G=>?_;refine R.bound 0 (sz:=1) (ds:=l.map I) rfl λhl=>?_;have hl:l.length<=9223372036854775807:=xe;refine ac ?_;refine R.fU (λ(k:Nat) s=>St.lp [0,1,7,8] [(9,.pd (I k))] [] [] [] [] s) (λ(k:Nat)=>k<=l.length/\(aw k).all (qy n l)=true) (λ(k:Nat)=>l.length-k) (0) (⟨qk,rfl⟩) ?_;rintro k ⟨q,v⟩;refine ac ?_;refine⟨λh=>?_,λh=>?_⟩
 ·have hlt:k<l.length:=uu h
  have a:((k:Int)-1).toNat<l.length:=qk;have e:l[k]=l.getD k 0:=yo;have E:l[((k:Int)-1).toNat]=l.getD (k-1) 0:=by simp [ag,show((k:Int)-1).toNat=k-1 by omega,show k-1<l.length by omega]
  have r:((k:Int))>=0:=qk;have b:(aw (k+1)).all (qy n l)=qy n l k:=by rw [LZ,v,eJ]
  have N:qy n l k=false->B (setB n l)=B false:=λh=>by
   rw [show setB n l=false from fm.2 ⟨k,cd.2 hlt,by rw [h];decide⟩]
  have H:qy n l k=(decide (0<=l.getD k 0)&&decide (l.getD k 0<n)&&(k==0||decide (l.getD (k-1) 0<l.getD k 0))):=rfl
  by_cases f:l.getD k 0<0
  ·have d:decide (l.getD k 0<0)=true:=uu f
   refine z9 hlt e d ?_;refine R.rC ?_;rw [N (by rw [H,show decide (0<=l.getD k 0)=false by simpa using f];rfl)];rfl
  have d:decide (l.getD k 0<0)=false:=uu f
  by_cases C:l.getD k 0>=n
  ·have D:decide (l.getD k 0>=n)=true:=uu C
   refine qd hlt e d D ?_;refine R.rC ?_;rw [N (by rw [H,show decide (l.getD k 0<n)=false by simpa using C,nh];rfl)];rfl
  have D:decide (l.getD k 0>=n)=false:=uu C
  by_cases m:k=0
  ·have i:decide ((k:Int)>0)=false:=by simp [m]
   apply aj;simp only [go_sem,↓reduceIte,getD_map,hlt,e,d,D,i,wrapN (k:=k) qk];repeat refine⟨qk,?_⟩
   refine R.fE (k+1) ⟨qk,by rw [b,H,show decide (0<=l.getD k 0)=true by simpa using f,show decide (l.getD k 0<n)=true by simpa using C,m];rfl⟩
  have i:decide ((k:Int)>0)=true:=qz;have p:(k==0)=false:=uu m
  by_cases g:l.getD (k-1) 0<l.getD k 0
  ·have j:decide (l.getD k 0<=l.getD (k-1) 0)=false:=uu g
   apply aj;simp only [go_sem,↓reduceIte,getD_map,hlt,Uc k qk,a,e,E,d,D,i,j,wrapN (k:=k) qk];repeat refine⟨qk,?_⟩
   refine R.fE (k+1) ⟨qk,by rw [b,H,show decide (0<=l.getD k 0)=true by simpa using f,show decide (l.getD k 0<n)=true by simpa using C,show decide (l.getD (k-1) 0<l.getD k 0)=true by simpa using g];simp⟩
  ·have j:decide (l.getD k 0<=l.getD (k-1) 0)=true:=uu g
   apply aj;simp only [go_sem,↓reduceIte,getD_map,hlt,Uc k qk,a,e,E,d,D,i,j];repeat refine⟨qk,?_⟩
   refine R.rC ?_;rw [N (by rw [H,p,show decide (l.getD (k-1) 0<l.getD k 0)=false by simpa using g];simp)];rfl
 ·have o:¬k<l.length:=uu h
  refine ac ?_;refine R.rC ?_;rw [show k=l.length by omega]at v;show _=some (True,[B (setB n l)]);rw [show setB n l=true from v];rfl
def KP(n:Int)(l:List Int):aG aa 191 [.pd (ints l),.pd (I n)] [B (setB n l)]:=by
 refine aG.mk Tryz.func191 λw G=>?_;refine R.bound 0 (sz:=1) (ds:=l.map I) rfl λhl=>?_;have hl:l.length<=9223372036854775807:=xe;refine ac ?_;refine R.fU (λ(k:Nat) s=>St.lp [0,1,7,8] [(9,.pd (I k))] [] [] [] [] s) (λ(k:Nat)=>k<=l.length/\(aw k).all (qy n l)=true) (λ(k:Nat)=>l.length-k) (0) (⟨qk,rfl⟩) ?_;rintro k ⟨q,v⟩;refine ac ?_;refine⟨λh=>?_,λh=>?_⟩
 ·have hlt:k<l.length:=uu h
  have a:((k:Int)-1).toNat<l.length:=qk;have e:l[k]=l.getD k 0:=yo;have E:l[((k:Int)-1).toNat]=l.getD (k-1) 0:=by simp [ag,show((k:Int)-1).toNat=k-1 by omega,show k-1<l.length by omega]
  have r:((k:Int))>=0:=qk;have b:(aw (k+1)).all (qy n l)=qy n l k:=by rw [LZ,v,eJ]
  have N:qy n l k=false->B (setB n l)=B false:=λh=>by
   rw [show setB n l=false from fm.2 ⟨k,cd.2 hlt,by rw [h];decide⟩]
  have H:qy n l k=(decide (0<=l.getD k 0)&&decide (l.getD k 0<n)&&(k==0||decide (l.getD (k-1) 0<l.getD k 0))):=rfl
  by_cases f:l.getD k 0<0
  ·have d:decide (l.getD k 0<0)=true:=uu f
   refine z9 hlt e d ?_;refine R.rC ?_;rw [N (by rw [H,show decide (0<=l.getD k 0)=false by simpa using f];rfl)];rfl
  have d:decide (l.getD k 0<0)=false:=uu f
  by_cases C:l.getD k 0>=n
  ·have D:decide (l.getD k 0>=n)=true:=uu C
   refine qd hlt e d D ?_;refine R.rC ?_;rw [N (by rw [H,show decide (l.getD k 0<n)=false by simpa using C,nh];rfl)];rfl
  have D:decide (l.getD k 0>=n)=false:=uu C
  by_cases m:k=0
  ·have i:decide ((k:Int)>0)=false:=by simp [m]
   apply aj;simp only [go_sem,↓reduceIte,getD_map,hlt,e,d,D,i,wrapN (k:=k) qk];repeat refine⟨qk,?_⟩
   refine R.fE (k+1) ⟨qk,by rw [b,H,show decide (0<=l.getD k 0)=true by simpa using f,show decide (l.getD k 0<n)=true by simpa using C,m];rfl⟩
  have i:decide ((k:Int)>0)=true:=qz;have p:(k==0)=false:=uu m
  by_cases g:l.getD (k-1) 0<l.getD k 0
  ·have j:decide (l.getD (k-1) 0>=l.getD k 0)=false:=uu g
   apply aj;simp only [go_sem,↓reduceIte,getD_map,hlt,Uc k qk,a,e,E,d,D,i,j,wrapN (k:=k) qk];repeat refine⟨qk,?_⟩
   refine R.fE (k+1) ⟨qk,by rw [b,H,show decide (0<=l.getD k 0)=true by simpa using f,show decide (l.getD k 0<n)=true by simpa using C,show decide (l.getD (k-1) 0<l.getD k 0)=true by simpa using g];simp⟩
  ·have j:decide (l.getD (k-1) 0>=l.getD k 0)=true:=uu g
   apply aj;simp only [go_sem,↓reduceIte,getD_map,hlt,Uc k qk,a,e,E,d,D,i,j];repeat refine⟨qk,?_⟩
   refine R.rC ?_;rw [N (by rw [H,p,show decide (l.getD (k-1) 0<l.getD k 0)=false by simpa using g];simp)];rfl
 ·have o:¬k<l.length:=uu h
  refine ac ?_;refine R.rC ?_;rw [show k=l.length by omega]at v;show _=some (True,[B (setB n l)]);rw [show setB n l=true from v];rfl
def HW(a b:List Int):aG aa 49 [.pd (ints a),.pd (ints b)] [B (a==b)]:=by
 refine aG.mk Tryz.func49 λw G=>?_;refine R.bound 0 (sz:=1) (ds:=a.map I) rfl λhl=>?_;have hl:a.length<=9223372036854775807:=xe;refine ac ?_;refine⟨λh=>?_,λh=>?_⟩
 ·have h:a.length≠b.length:=by intro e;simp [e]at h
  refine ac ?_;refine R.rC ?_;rw [show(a==b)=false from eh.2 λe=>h (by rw [e])];rfl
 have h:a.length=b.length:=by
  have h:¬(a.length:Int)≠b.length:=uu h;omega
 refine ac ?_;refine R.fU (λ(k:Nat) s=>St.lp [0,1,12] [(13,.pd (I k))] [] [] [] [] s) (λ(k:Nat)=>k<=a.length/\a.take k=b.take k) (λ(k:Nat)=>a.length-k) (0) (⟨qk,rfl⟩) ?_;rintro k ⟨j,H⟩;refine ac ?_;refine⟨λg=>?_,λg=>?_⟩
 ·have t:k<a.length:=uu g
  have d:k<b.length:=qk;refine ac ?_;refine R.dA 8 80 mixed qv ?_;simp only [go_sem,getD_map,t,d];repeat refine⟨qk,?_⟩
  refine ac ?_;refine⟨λf=>?_,λf=>?_⟩
  ·refine ac ?_
   refine R.rC ?_;rw [show(a==b)=false from eh.2 λe=>by subst e;simp at f];rfl
  ·apply ev8;simp only [go_sem,wrapN (k:=k) qk]
   refine R.fE (k+1) ⟨qk,by rw [bh t,bh d,H,show a[k]=b[k] by simpa using f]⟩
 ·have i:¬k<a.length:=uu g
  refine ac ?_;refine R.rC ?_;rw [bi qk,bi qk]at H;rw [show(a==b)=true from uu H];rfl
abbrev lls(l:List (List Int)):PD:=.list 1 (l.map ints)
def ZO(a b:List (List Int)):aG aa 47 [.pd (lls a),.pd (lls b),.pd (.raw (.func (.func 49) #[] #[]))] [B (a==b)]:=by
 refine aG.mk Tryz.func47 λw G=>?_;refine R.bound 0 (sz:=1) (ds:=a.map ints) rfl λhl=>?_;have hl:a.length<=9223372036854775807:=xe;refine ac ?_;refine⟨λh=>?_,λh=>?_⟩
 ·have h:a.length≠b.length:=by intro e;simp [e]at h
  refine ac ?_;refine R.rC ?_;rw [show(a==b)=false from eh.2 λe=>h (by rw [e])];rfl
 have h:a.length=b.length:=by
  have h:¬(a.length:Int)≠b.length:=uu h;omega
 refine ac ?_;refine R.fU (λ(k:Nat) s=>St.lp [1,2,15,16] [(17,.pd (I k))] [] [] [] [] s) (λ(k:Nat)=>k<=a.length/\a.take k=b.take k) (λ(k:Nat)=>a.length-k) (0) (⟨qk,rfl⟩) ?_;rintro k ⟨j,H⟩;refine ac ?_;refine⟨λg=>?_,λg=>?_⟩
 ·have t:k<a.length:=uu g
  have d:k<b.length:=qk;refine z8 t d ?_;refine R.y rfl (ah qn) (.iE 26 49 _ _ [.pd (ints a[k]),.pd (ints b[k])] _ false rfl rfl ze (HW _ _) qr) ?_;refine ac ?_;refine⟨λf=>?_,λf=>?_⟩
  ·refine ac ?_
   refine R.rC ?_;rw [show(a==b)=false from eh.2 λe=>by subst e;simp at f];rfl
  ·apply ev8;simp only [go_sem,wrapN (k:=k) qk]
   refine R.fE (k+1) ⟨qk,by rw [bh t,bh d,H,show a[k]=b[k] by simpa using f]⟩
 ·have i:¬k<a.length:=uu g
  refine ac ?_;refine R.rC ?_;rw [bi qk,bi qk]at H;rw [show(a==b)=true from uu H];rfl
def Mg:aF aa 95:=λ_ _=>qq
def Fm:aF aa 146:=λ_ _=>qq
def Fo:aF aa 143:=λ_ _=>qq
def JQ(c:Int):Bool:=decide (c<0)||decide (c>1000000000)
def HX(c:Int):aG aa 95 [.pd (I c)] [B (JQ c)]:=by
 refine aG.mk Tryz.func95 λw G=>?_;refine ac ?_;refine R.rC ?_;unfold JQ
 cases decide (c<0)<;>rfl
def jE(n:Int)(l:List Int):Bool:=decide (0<=n)&&decide (n<=4000)&&decide ((l.length:Int)=n) && !l.any JQ
def ZP(n:Int)(l:List Int):aG aa 45 [.pd (I n),.pd (ints l)] [B (jE n l)]:=by
 refine aG.mk Tryz.func45 λw G=>?_
 by_cases b:n>=0
 ·have d:decide (n>=0)=true:=uu b
  by_cases a:n<=4000
  ·have D:decide (n<=4000)=true:=uu a
   by_cases C:(l.length:Int)=n
   ·have e:((l.length:Int)==n)=true:=uu C
    refine qb d D e ?_;have h:=dW l JQ;refine R.kC (h) rfl rfl (zc (.cons (.func 95 (decides I JQ l) Mg (by rintro E r ⟨x,_,rfl,rfl⟩;exact HX x)) (.nil))) ?_;refine ar ?_;refine R.rC ?_;rw [show jE n l=!l.any JQ by simp [jE,b,a,C]];rfl
   ·have e:((l.length:Int)==n)=false:=uu C
    refine qb d D e ?_;refine R.rC ?_;rw [show jE n l=false by simp [jE,C]];rfl
  ·have D:decide (n<=4000)=false:=uu a
   refine zz d D ?_;refine R.rC ?_;rw [show jE n l=false by simp [jE,a]];rfl
 ·have d:decide (n>=0)=false:=uu b
  refine zw d ?_;refine R.rC ?_;rw [show jE n l=false by simp [jE,b]];rfl
def yC:List Int->List Int->Bool
 |_,[]=>true
 |a,v::b=>a.contains v&&yC (a.drop (below a v+1)) b
def HZ{a:List Int}{v:Int}(h:a.contains v=true):below a v<a.length:=by
 unfold below;have H:v∈a:=uu h;rcases cn (a.countP (· <v)) a.length with c|c
 ·exact c
 ·have b:=m4.1 (Nat.le_antisymm iv c) v H
  simp at b
def Xy(a b:List Int)(j:a.Pairwise (· < ·))(o:a.length<1000000000000):aG aa 147 [.pd (ints a),.pd (ints b)] [B (yC a b)]:=by
 refine aG.mk Tryz.func147 λw G=>?_;refine R.bound 1 (sz:=1) (ds:=b.map I) rfl λe=>?_;have e:b.length<=9223372036854775807:=by simpa [maxLen]using e
 refine ac ?_;refine R.fU (λ(K:Nat×List Int) s=>St.lp [9,10] [(11,.pd (I K.1)),(0,.pd (ints K.2))] [] [] [] [] s) (λ(K:Nat×List Int)=>K.1<=b.length/\K.2.Pairwise (· < ·)/\K.2.length<=a.length/\yC a b=yC K.2 (b.drop K.1)) (λ(K:Nat×List Int)=>b.length-K.1) ((0,a)) (⟨qr,j,a3 _,qr⟩) ?_;rintro⟨k,c⟩ ⟨m,g,l,H⟩;simp only at m g l H;refine ac ?_;refine⟨λh=>?_,λh=>?_⟩
 ·have t:k<b.length:=uu h
  rw [drop_cons t,yC]at H;refine qe t ?_;refine R.kC (Q5 c b[k] g qk) rfl rfl ze ?_;refine ac ?_;refine⟨λd=>?_,λd=>?_⟩
  ·have d:c.contains b[k]=false:=uu d
   refine ac ?_;refine R.rC ?_;rw [H,d];rfl
  ·have d:c.contains b[k]=true:=uu d
   have p:=HZ d;have i:IntKind.i64.wrap (((below c b[k]:Nat):Int)+1)=((below c b[k]+1:Nat):Int):=wrapN qk;have f:IntKind.i64.wrap ((k:Int)+1)=((k+1:Nat):Int):=wrapN qk;rw [d,eJ]at H;apply ev8;simp only [go_sem,i,f];repeat refine⟨qk,?_⟩
   have E:((c.map I).take c.length).drop (below c b[k]+1)=(c.drop (below c b[k]+1)).map I:=by rw [bi qr,List.map_drop]
   have q:(((below c b[k]+1:Nat):Int)).toNat=below c b[k]+1:=qr;simp only [go_sem,E];refine R.fE (k+1,c.drop (below c b[k]+1)) ⟨q6,g.sublist (List.drop_sublist ..),by simp only [fa];omega,H⟩
 ·have n:¬k<b.length:=uu h
  refine ac ?_;refine R.rC ?_;rw [cC (by omega:b.length<=k)]at H;rw [H];rfl
def Fr(a b:List Int)(h:a.Pairwise (· < ·))(H:a.length<1000000000000):aG aa 146 [.pd (ints b),.ref (ints a) 0] [B (yC a b)]:=by
 refine aG.mk Tryz.func146 λw G=>?_;refine ac ?_;refine R.kC (Xy a b h H) rfl rfl ze ?_;refine ac ?_;refine R.rC ?_;rfl
end Go.Proofs.Z
namespace Go.au
variable {C:Cx}{s:St}{k:List KI}
def wQ(row:Nat->Option Row):SV->Bool
 | .pd (.raw _)=>true
 | .own i=>(row i).isSome
 | .dP i _ _=>(row i).isSome
 | .aA _ _=>true
 |_=>false
section
variable {P:Program}{w w':World}{E:Env}{row:Nat->Option Row}{v v':Value}{x:SV}
def O3(h:wQ row x=true)(H:Rel P w E row v x):Rel P w' E row v x:=by
 cases x with
 |pd d=>cases d with
  |raw u=>cases H with|raw _ a=>exact Rd.raw _ a
  |_=>cases h
 |own i=>exact H
 |dP i n o=>exact H
 |aA t o=>exact H
 |_=>cases h
def OF(h:wQ row x=true)(f:Rel P w E row v x)(a:Rel P w' E row v' x):v=v':=by
 cases x with
 |pd d=>cases d with
  |raw u=>exact(aH.aC (show aH w E.G v (.raw u)from f)).trans (aH.aC (show aH w' E.G v' (.raw u)from a)).symm
  |_=>cases h
 |own i=>
  simp only [wQ,dm]at h;obtain⟨r,H⟩:=h;rcases f r H with⟨k,j⟩|⟨b,c,k,j⟩<;>rcases a r H with⟨e,g⟩|⟨l,C,e,g⟩<;>rw [k]at e<;>cases e<;>rw [j,g]
 |dP i n o=>
  simp only [wQ,dm]at h;obtain⟨r,H⟩:=h;obtain⟨b,c,k,j⟩:=f r H;obtain⟨l,C,e,g⟩:=a r H;rw [k]at e;cases e;rw [j,g]
 |aA t o=>exact(show v=_ from f).trans (show v'=_ from a).symm
 |_=>cases h
end
def vJ{C:Cx}{b:List PanicEntry}{a:Act}{w:World}:∀{k:List KI},fin C k (.panic b) a w->C.post (.panic b) a w
 | [],h=>h
 | .inBlock _::k,h=>vJ (k:=k) h
 | .code _::k,h=>vJ (k:=k) h
 | .ops _ _::k,h=>vJ (k:=k) h
 | .aU _::k,h=>vJ (k:=k) h
def y8:Op->Bool
 | .move _=>true
 | .binOp _ _ _ _ _=>true
 | .indexAddr _ _ _=>true
 | .fieldAddr _ _ _=>true
 | .nilCheck _=>true
 |_=>false
section
variable {C:Cx}{s:St}{a:Act}{w:World}{E:Env}{all:Array Oper}{k:List KI}{o:Oper}
def Ri(g:aB C s a w E)(q:o.guard=none)(l:y8 o.op=true)(j:∀x∈o.op.operands,wQ s.row (aO s x)=true){vc:Prop}{v:SV}(h:ay C.P (aO s) s.var s.row o.op=some (vc,v))(A:vc)(m:wQ s.row v=true):
  ∃u,Yields C.P all o u a/\Rel C.P w E s.row u v:=by
 have H:∀x∈o.op.operands,∀b,Rel C.P b E s.row (a.eval x) (aO s x):=λx n b=>O3 (j x n) (aT g x)
 have key:∀b,∃u,(execOp a.eval o).run C.P b= .ok (.value u) b/\Rel C.P b E s.row u v:=by
  intro b;obtain⟨D,op,T,p,after,guard⟩:=o;simp only at j H h l
  cases op with
  |move x=>
   simp only [ay,bo,dz]at h;obtain⟨_,rfl⟩:=h;exact⟨_,rfl,H x xd b⟩
  |binOp op t x y G=>
   simp only [ay]at h;obtain⟨u,h1,d⟩:=Lr h A (H x xd b) (H y xd b) x y;refine⟨u,?_,d⟩;simp only [execOp];rw [az,h1];rfl
  |indexAddr t x i=>
   simp only [ay]at h
   cases e:idx (aO s i)with
   |none=>simp [e]at h
   |some K=>
    simp [e]at h;have z:=Uu (k:=K.1) (i:=K.2) e (H i xd b);obtain⟨u,h1,d⟩:=GZ g.X0 h A (H x xd b);exact⟨u,by simp [execOp,z,h1],d⟩
  |nilCheck x=>
   simp only [ay]at h;obtain⟨h1,d⟩:=Lp (P:=C.P) (w:=b) (E:=E) h (H x xd b) a.eval x rfl ⟨D,.nilCheck x,T,p,after,guard⟩ rfl;exact⟨_,h1,d⟩
  |fieldAddr t x f=>
   simp only [ay]at h;obtain⟨u,h1,d⟩:=xG h A (H x xd b);exact⟨u,un,d⟩
  |_=>cases l
 obtain⟨u,_,d⟩:=key w;refine⟨u,.inl ⟨by simp [Region.wanted,q],λb=>?_⟩,d⟩;obtain⟨U,h1,r⟩:=key b;rw [h1,OF m d r]
def Oe(all:Array Oper):List Nat->Array Bool->Bool
 | [],L=>(b4 .any all L).isEmpty
 |i::s,L=>b4 .any all L== [i]&&Oe all s (L.setIfInBounds i true)
def tg(all:Array Oper)(s:List (List Nat))(L:Array Bool):Bool:=
 !(b4 .any all L).isEmpty&&(b4 .any all L).all λi=>s.any λl=>l.head? ==some i&&Oe all l.tail (L.setIfInBounds i true)
def takeB(all:Array Oper)(l:List (List Nat)):List Nat->Array Bool->Bool
 | [],L=>tg all l L
 |i::F,L=>Region.free .any all L i&&(b4 .any all L).contains i&&takeB all l F (L.setIfInBounds i true)
def pick(all:Array Oper):List Nat->List Oper
 | []=>[]
 |i::l=>match all[i]? with|some o=>o::pick all l|none=>[]
def FD{Q:Exit->Act->World->Prop}:∀(s:List Nat) (L:Array Bool) (l:Nat) (a:Act) (w:World),Oe all s L=true->s.length<=l->wpList C.P all Q (pick all s) a w->wpAny C.P .any all Q l L a w
 | [],L,l,a,w,H,_,h=>by
  have r:b4 .any all L=[]:=by simpa [Oe]using H
  cases l with
  |zero=>exact⟨r,h⟩
  |succ f=>exact⟨λ_=>h,λi g=>by rw [r]at g;cases g⟩
 |i::s,L,l,a,w,H,d,h=>by
  simp only [Oe,bj,cy]at H
  cases l with
  |zero=>simp at d
  |succ f=>
   constructor
   ·intro k;rw [H.1]at k;cases k
   intro j e;rw [H.1]at e;have:j=i:=uu e;subst this;have p:j∈b4 .any all L:=by rw [H.1];simp
   obtain⟨_,o,n,_⟩:=mem_ready.1 p;unfold wpOp;simp only [pick,n,wpList]at h⊢
   split
   ·rename_i b
    rw [af b]at h;exact h.imp (λh=>Oper.wp_mono (λA m q=>FD s _ f A m H.2 (uu d) q) h) id
   ·rename_i b
    rw [ae b]at h;exact FD s _ f _ w H.2 (uu d) h
def Il(C:Cx)(all:Array Oper)(K:St->Prop):List Nat->St->Prop
 | [],s=>K s
 |i::F,s=>match all[i]? with
  |some o=>match ay C.P (aO s) s.var s.row o.op with
   |some p=>p.1/\(o.guard=none/\y8 o.op=true/\(o.op.operands.toList.all λx=>wQ s.row (aO s x))=true/\wQ s.row p.2=true)/\dN s o/\Il C all K F (s.put o.dst p.2)
   |none=>False
  |none=>False
def AX(C:Cx)(all:Array Oper)(k:List KI)(s:St):List (List Nat)->Prop
 | []=>True
 | [l]=>R C (.ops all (pick all l)::k) s
 |l::L=>R C (.ops all (pick all l)::k) s/\AX C all k s L
def Vx:∀{L:List (List Nat)},AX C all k s L->∀l∈L,R C (.ops all (pick all l)::k) s
 | [l],h,a,H=>by simp at H;subst H;exact h
 |l::e::L,⟨d,b⟩,a,H=>by
  rcases b8.1 H with rfl|H
  ·exact d
  ·exact Vx b a H
def Vy(b:List (List Nat))(Q:iA all=true)(H:∀c a w d v,C.post (.panic c) (Act.put a d v) w->C.post (.panic c) a w):∀(F:List Nat) (L:Array Bool) (m:Nat) (s:St) (a:Act) (w:World) (E:Env),takeB all b F L=true->(∀l∈b,F.length+l.length<=m)->b≠[]->
  Il C all (λs=>AX C all k s b) F s->aB C s a w E->wpAny C.P .any all (fin C k) m L a w
 | [],L,m,s,a,w,E,n,G,A,h,g=>by
  simp only [takeB,tg,bj,lf,aM]at n
  cases m with
  |zero=>
   cases J:b4 .any all L with
   |nil=>simp [J]at n
   |cons i r=>
    have:=n.2 i (by rw [J];simp);obtain⟨l,q,t⟩:=gk.1 this;have:=G l q;simp at this;subst this;simp at t
  |succ f=>
   refine⟨λh0=>by simp [h0]at n,λi T=>?_⟩;obtain⟨l,q,t⟩:=gk.1 (n.2 i T);simp only [bj,cy]at t
   cases l with
   |nil=>simp at t
   |cons j P=>
    simp only [List.head?_cons,bo,List.tail_cons]at t;obtain⟨rfl,K⟩:=t;have D:=Vx h _ q a w E g;have N:=G _ q;simp only [a9,an,cx]at N;obtain⟨_,o,M,_⟩:=mem_ready.1 T;unfold wpOp;simp only [fin,pick,M,wpList]at D⊢
    split
    ·rename_i z
     rw [af z]at D;exact D.imp (λh=>Oper.wp_mono (λa' U h'=>FD P _ f a' U K qk h') h) id
    ·rename_i z
     rw [ae z]at D;exact FD P _ f _ w K qk D
 |i::F,L,m,s,a,w,E,n,G,A,h,g=>by
  simp only [takeB,bj]at n;simp only [Il]at h
  split at h
  ·rename_i o M
   split at h
   ·rename_i p hp
    obtain⟨h1,⟨t,K,h4,O⟩,h6,h7⟩:=h;obtain⟨u,X,J⟩:=Ri (all:=all) g t K (λx Z=>aM.1 h4 x (uu Z)) (vc:=p.1) (v:=p.2) (by rw [hp]) h1 O
    cases m with
    |zero=>
     obtain⟨l,q⟩:=List.exists_mem_of_ne_nil _ A;have:=G l q;simp at this
    |succ f=>
     refine wpAny_take M Q n.1.1 n.1.2 (λc a w hq=>?_) X (Vy b Q H F _ f _ _ w E n.2 (λl q=>?_) A h7 (g.eY (ah h6) J λcs e=>?_))
     ·exact jL a w (H c a w o.dst u (vJ hq)) k
     ·have:=G l q;simp at this;omega
     ·rw [e]at O;cases O
   ·exact h.elim
  ·exact h.elim
def R.hoist{id:Nat}(F:List Nat)(L:List (List Nat))(hm:C.P.follows .mixedOrders=true)(b:iA all=true)(j:takeB all L F (bw all.size false)=true)(i:(L.all λl=>decide (F.length+l.length<=all.size))=true)(e:L≠[])
  (h:Il C all (λs=>AX C all k s L) F s)(H:∀c a w d v,C.post (.panic c) (Act.put a d v) w->C.post (.panic c) a w:=by intro _ _ _ d _ h;cases d<;>exact h):R C (.code (.region id all true)::k) s:=λ_ _ _ g=>
 wp_region_any hm (Vy L b H F _ _ s _ _ _ j (λl f=>uu (aM.1 i l f)) e h g.drew)
end
def R.asM(t:Nat){v:SV}(n:t<s.n)(H:s.get t= .gd true v)(h:∀cs,v≠.box cs)(next:R C k (s.set t v)):R C k s:=by
 intro a w E g;refine next a w E (g.Aw n ?_ h)
 have:=g.slots t;rw [H]at this;exact this rfl
def AY{P:Program}{all:Array Oper}{Q f:Exit->Act->World->Prop}(h:∀e a w,Q e a w->f e a w):∀(l:List Oper) (a:Act) (w:World),wpList P all Q l a w->wpList P all f l a w
 | [],a,w,H=>h _ a w H
 |o::l,a,w,H=>by
  simp only [wpList]at H⊢
  split
  ·rename_i b
   rw [af b]at H;rcases H with H|⟨j,A,g,i⟩
   ·exact .inl (Oper.EM (λa w d=>AY h l a w d) (λe a w _ d=>h e a w d) H)
   ·exact .inr ⟨j,A,g,h _ _ _ i⟩
  ·rename_i b
   rw [ae b]at H;exact AY h l _ w H
def nC{C:Cx}{k1 k2:List KI}(h:∀e a w,fin C k1 e a w->fin C k2 e a w):∀(pre:List KI) (e:Exit) (a:Act) (w:World),fin C (pre++k1) e a w->fin C (pre++k2) e a w
 | [],e,a,w,H=>h e a w H
 | .code c::pre,e,a,w,H=>by
  cases e<;>first|exact wp_mono H (λe a w d=>nC h pre e a w d)|exact nC h pre _ a w H
 | .ops A l::pre,e,a,w,H=>by
  cases e<;>first|exact AY (λe a w d=>nC h pre e a w d) l a w H|exact nC h pre _ a w H
 | .inBlock id::pre,e,a,w,H=>by
  cases e with
  |exit i=>
   simp only [bE,fin]at H⊢
   split
   ·rename_i b;rw [af b]at H;exact nC h pre _ a w H
   ·rename_i b;rw [ae b]at H;exact nC h pre _ a w H
  |_=>exact nC h pre _ a w H
 | .aU J::pre,e,a,w,H=>by
  cases e<;>first|exact H|exact nC h pre _ a w H
def Mid{ι:Type}(S:ι->St)(Inv:ι->Prop):St->Prop:=λs=>∃i,Inv i/\s=S i
def R.mid{ι:Type}(n:Nat)(M:ι->St->St)(Inv:ι->Prop)(f:R C (k.take n++ .aU (Mid (λi=>M i s) Inv)::k.drop n) s)(d:∀i,Inv i->R C (k.drop n) (M i s)):R C k s:=λa w E g=>by
 have h:=nC (C:=C) (k2:=k.drop n) (λe a w H=>by
  cases e with
  |normal=>obtain⟨_,j,⟨i,b,rfl⟩,G⟩:=H;exact d i b a w j G
  |_=>exact H) (k.take n) .normal a w (f a w E g)
 rwa [cK]at h
def R.pX{ι:Type}{S:ι->St}{Inv:ι->Prop}(i:ι)(hi:Inv i)(l:QM s (S i)):R C (.aU (Mid S Inv)::k) s:=R.to (S i) l (R.aU ⟨i,hi,rfl⟩)
def R.Vz{all:Array Oper}{o:Oper}{l:List Oper}{t e:TypeId}{d:Nat}{x:Operand}{u:Value}(id:Nat)(hid:C.fP id=none)(G:o.op= .buildSlice t 1 #[(0,x)])(L:o.guard=none)(O:o.dst=some d)(hn:d<s.n)(D:aO s x= .pd (.raw u))(z:u.cells= #[u])(r:u.oneCell'=true)(N:eu C.P t=some e)(A:aP C.P e=1)(H:(bG C.P e).isSome=true)
  (next:R C (.ops all l::k) ((s.newRow id ⟨e,1,[.raw u]⟩).set d (.own id))):R C (.ops all (o::l)::k) s:=by
 intro a w E g;refine wpList_plain L λK T=>?_;have q:=aT g x;rw [D]at q;have q:a.eval x=u:=aH.aC q;have f:=run_buildSlice (P:=C.P) (w:=w) (n:=1) (vs:=[u]) (parts:=#[(0,u)]) N A qu qu H rfl rfl (by simp [z]);unfold Oper.wp execOp;simp only [G,az,cA,ap,ax,q,f,a8,aD,Oper.upon_value];simp only [O];have M:(flat [u]).toArray= #[u]:=by simp [flat,z]
 rw [M]
 have U:=g.row (i:=id) (r':=⟨e,1,[.raw u]⟩) (w':=w.alloc (.cells #[u] e)) (some (w.heap.size,1)) (Keeps.of_below g.gw (bF w _) (λ_ _ h=>h)) (g.kept.trans (.of_below (bF w _))) qr (λp hp=>j6)
  (λb Q _=>heap_alloc_old w _ Q) (.inr ⟨w.heap.size,1,_,rfl,⟨.inl g.kept.size,λn hn=>w7,heap_alloc_new w _⟩,qr,qr,by simp [maxLen],λk v=>by
   have:k=0:=uu v;subst this;rfl,λk j v J=>by
   have Z:k=0:=uu v;have X:j=0:=uu J;subst Z;subst X;exact .raw _ r⟩) (λb c h=>vl)
 exact T _ _ (next _ _ _ (U.put hn (λr' m=>.inr ⟨w.heap.size,1,qr,by
  rw [St.iY,af rfl]at m;cases m;rfl⟩) qr))
end Go.au
namespace Go.Proofs.Z
open Go.au
def VA:aF aa 203:=λ_ _=>qq
structure Gr where
 n:Nat
 cost:List Int
 edges:List (List Int)
abbrev pY(g:Gr):PD:=.ak [I g.n,ints g.cost,lls g.edges]
abbrev gB(g:Gr)(inc:List (List Int)):List SV:=[.pd (I g.n),.pd (ints g.cost),.pd (lls g.edges),.own 20002,.own 20003,.pd (lls inc)]
abbrev gI(l:List Bool):Row:=⟨4,1,l.map B⟩
abbrev cO(l:List Int):Row:=⟨3,1,l.map I⟩
def nK(d:Int):List Int->List Int->List Int
 | [],f=>f
 |e::l,f=>nK d l (f.set e.toNat (IntKind.i64.wrap (f.getD e.toNat 0+d)))
def FH(d:Int)(l f:List Int):(nK d l f).length=f.length:=by
 induction l generalizing f with
 |nil=>rfl
 |cons e l i=>rw [nK,i,cc]
abbrev sg(x:Bool):Int:=if x then 1 else-1
def Rj(x y:Int):spl (I x) 0 (I y)=I y:=rfl
def spB(x y:Bool):spl (B x) 0 (B y)=B y:=rfl
def Rk(X:List Int)(i:Nat)(y:Int):(X.map I).set i (I y)=(X.set i y).map I:=by rw [gS]
def msB(X:List Bool)(i:Nat)(y:Bool):(X.map B).set i (B y)=(X.set i y).map B:=by rw [gS]
def Yz(b:Nat)(g:Gr)(i:List (List Int))(n:List Bool)(f:List Int)(v:Nat)(x:Bool)(z:v<n.length)(hi:v<i.length)(A:n.length<1000000000)(r:∀e∈i.getD v [],0<=e/\e.toNat<f.length):
  bJ aa 203 [(20001,b)] [20002,20003] [.aA 20001 0,.pd (I v),.pd (B x)] [(20001,gB g i)] [(20002,gI n),(20003,cO f)]
   (λ_ res xs vars rows=>res= .ret/\xs=[]/\vars=[(20001,gB g i)]/\rows=[(20002,gI (n.set v x)),(20003,cO (nK (sg x) (i.getD v []) f))]):=by
 have u:i[v]=i.getD v []:=ym;generalize D:i.getD v []=l at r u;refine bJ.mk Tryz.func203 λw G C=>?_
 cases x
 ·skip
  refine ac ?_;apply ev8;simp only [go_sem,getD_map,z,hi,spB,msB,u];repeat refine⟨qk,?_⟩
  refine R.bound 24 (sz:=1) (ds:=l.map I) rfl λhl2=>?_;have hl2:l.length<=9223372036854775807:=v4;refine R.fU (λ(p:Nat×List Int) s=>St.lp [0,6,24,25] [(26,.pd (I p.1))] [20001] [] [20002] [(20003,cO p.2)] s) (λ(p:Nat×List Int)=>p.1<=l.length/\p.2.length=f.length/\nK (-1) (l.drop p.1) p.2=nK (-1) l f) (λ(p:Nat×List Int)=>l.length-p.1) ((0,f)) (⟨q6,rfl,qr⟩) ?_;rintro⟨k,F⟩ ⟨o,d,H⟩;simp only at o d H;refine ac ?_;refine⟨λh=>?_,λh=>?_⟩
  ·have t:k<l.length:=uu h
   obtain⟨m,j⟩:=r l[k] (am t);rw [drop_cons t,nK]at H;have a:l[k].toNat<F.length:=qk;have E:F[l[k].toNat]=F.getD l[k].toNat 0:=by simp [a]
   apply ev8;simp only [go_sem,getD_map,t,a,E,Rj,Rk,wrapN (k:=k) qk];repeat refine⟨qk,?_⟩
   refine R.fE (k+1,F.set l[k].toNat (IntKind.i64.wrap (F.getD l[k].toNat 0+(-1)))) ⟨q6,(cc ..).trans d,H⟩
  ·have q:¬k<l.length:=uu h
   rw [cC (by omega:l.length<=k),nK]at H;refine ac ?_;refine R.oX [(20001,gB g i)] [(20002,gI (n.set v false)),(20003,cO F)] [] ?_;intro _ _;exact⟨rfl,rfl,rfl,by rw [H];rfl⟩
 ·skip
  refine ac ?_;apply ev8;simp only [go_sem,getD_map,z,hi,spB,msB,u];repeat refine⟨qk,?_⟩
  refine R.bound 24 (sz:=1) (ds:=l.map I) rfl λhl2=>?_;have hl2:l.length<=9223372036854775807:=v4;refine R.fU (λ(p:Nat×List Int) s=>St.lp [0,6,24,25] [(26,.pd (I p.1))] [20001] [] [20002] [(20003,cO p.2)] s) (λ(p:Nat×List Int)=>p.1<=l.length/\p.2.length=f.length/\nK (1) (l.drop p.1) p.2=nK (1) l f) (λ(p:Nat×List Int)=>l.length-p.1) ((0,f)) (⟨q6,rfl,qr⟩) ?_;rintro⟨k,F⟩ ⟨o,d,H⟩;simp only at o d H;refine ac ?_;refine⟨λh=>?_,λh=>?_⟩
  ·have t:k<l.length:=uu h
   obtain⟨m,j⟩:=r l[k] (am t);rw [drop_cons t,nK]at H;have a:l[k].toNat<F.length:=qk;have E:F[l[k].toNat]=F.getD l[k].toNat 0:=by simp [a]
   apply ev8;simp only [go_sem,getD_map,t,a,E,Rj,Rk,wrapN (k:=k) qk];repeat refine⟨qk,?_⟩
   refine R.fE (k+1,F.set l[k].toNat (IntKind.i64.wrap (F.getD l[k].toNat 0+(1)))) ⟨q6,(cc ..).trans d,H⟩
  ·have q:¬k<l.length:=uu h
   rw [cC (by omega:l.length<=k),nK]at H;refine ac ?_;refine R.oX [(20001,gB g i)] [(20002,gI (n.set v true)),(20003,cO F)] [] ?_;intro _ _;exact⟨rfl,rfl,rfl,by rw [H];rfl⟩
def Fs:aF aa 312:=λ_ _=>qq
abbrev bools(l:List Bool):PD:=.list 1 (l.map B)
abbrev stD(g:Gr)(inc:List (List Int))(inn:List Bool)(full:List Int):PD:=.ak [I g.n,ints g.cost,lls g.edges,bools inn,ints full,lls inc]
def Ud(g:Gr)(f:List Int)(e:Int):Bool:=f.getD e.toNat 0==IntKind.i64.wrap (((g.edges.getD e.toNat []).length:Int)-1)
def L6(g:Gr)(i:List (List Int))(f:List Int)(v:Nat):Bool:=(i.getD v []).any (Ud g f)
def Xz(g:Gr)(a:List (List Int))(i:List Bool)(f:List Int)(e:Int)(h:0<=e)(h1:e.toNat<f.length)(h2:e.toNat<g.edges.length):
  aG aa 312 [.pd (I e),.ref (.ptr (stD g a i f)) 0] [B (Ud g f e)]:=by
 refine aG.mk Tryz.func312 λw G=>?_;have b:f[e.toNat]=f.getD e.toNat 0:=yp;have E:g.edges[e.toNat]=g.edges.getD e.toNat []:=j7;refine ac ?_;refine R.dA 17 80 mixed qv ?_;simp only [go_sem,getD_map,h1,h2,b,E];repeat refine⟨qk,?_⟩
 refine ac ?_;refine R.rC ?_;rfl
def Og(g:Gr)(i:List (List Int))(n:List Bool)(f:List Int)(v:Nat)(hi:v<i.length)(a:∀e∈i.getD v [],0<=e/\e.toNat<f.length)(b:f.length=g.edges.length):
  aG aa 202 [.pd (.ptr (stD g i n f)),.pd (I v)] [B (L6 g i f v)]:=by
 refine aG.mk Tryz.func202 λw G=>?_;have E:i[v]=i.getD v []:=ym;refine z8 hi E ?_;have h:=dW (i.getD v []) (Ud g f);refine R.kC (h) rfl rfl (zc (.cons (Co.oq (.ptr (stD g i n f)) rfl Fs (by rintro s r ⟨x,H,rfl,rfl⟩;have:=a x H;exact Xz g i n f x this.1 this.2 qk)) (.nil))) ?_;refine ac ?_;refine R.rC ?_;rfl
def JR:aF aa 26:=λ_ _=>qq
def Ue:aF aa 16:=λ_ _=>qq
structure ru where
 tl:List dO
 qs:List (ByteArray×Plan)
 fs:List dZ
 g:Gr
 o:Fin 10->PD
abbrev AZ(q:ByteArray×Plan):PD:=.ak (S q.1::(plan q.2).cells)
structure Tk where
 m:ru
 q:Int
 A:List Ans
 dec:Nat
 stop:Bool
abbrev oT(m:ru):List PD:=[H6 m.tl,m.o 0,m.o 1,m.o 2,m.o 3,m.o 4,.list 9 (m.qs.map AZ),m.o 5,m.o 6,m.o 7,iC m.fs,I m.g.n,ints m.g.cost,lls m.g.edges,m.o 8,m.o 9]
abbrev dV(t:Tk):List SV:=[.pd (H6 t.m.tl),.pd (t.m.o 0),.pd (t.m.o 1),.pd (t.m.o 2),.pd (t.m.o 3),.pd (t.m.o 4),.pd (.list 9 (t.m.qs.map AZ)),.pd (t.m.o 5),.pd (t.m.o 6),.pd (t.m.o 7),.pd (iC t.m.fs),.pd (I t.m.g.n),.pd (ints t.m.g.cost),.pd (lls t.m.g.edges),.pd (t.m.o 8),.pd (t.m.o 9),.pd (I t.q),.pd (PZ t.A),.own 20102,.pd (I t.dec),.pd (B t.stop),.pd (.raw (.slice none 0 0))]
def FI(b:Nat)(t:Tk)(r:Row):
  bJ aa 26 [(20101,b)] [] [.aA 20101 0] [(20101,dV t)] [(20102,r)]
   (λ_ res xs vars rows=>res= .ret/\xs=[.pd (I (if t.stop then 22 else 0))]/\vars=[(20101,dV t)]/\rows=[(20102,r)]):=by
 refine bJ.mk Tryz.func26 λw G a=>?_;obtain⟨m,q,A,d,s⟩:=t
 cases s
 ·refine ac ?_
  refine ar ?_;refine R.rX [(20101,dV ⟨m,q,A,d,false⟩)] [(20102,r)] [.pd (I 0)] ?_;exactλ_ _=>⟨rfl,rfl,rfl,rfl⟩
 ·refine ac ?_
  refine ar ?_;refine R.rX [(20101,dV ⟨m,q,A,d,true⟩)] [(20102,r)] [.pd (I 22)] ?_;exactλ_ _=>⟨rfl,rfl,rfl,rfl⟩
def XA:aG aa 26 [.pd (.raw (.pointer none))] [I 1]:=by
 refine aG.mk Tryz.func26 λw G=>?_;refine ac ?_;refine ar ?_;refine R.rC ?_;rfl
def DO(b:Nat)(t:Tk)(r:Row):
  bJ aa 16 [(20101,b)] [] [.aA 20101 0] [(20101,dV t)] [(20102,r)]
   (λ_ res xs vars rows=>res= .ret/\xs=[]/\vars=[(20101,dV {t with stop:=true})]/\rows=[(20102,r)]):=by
 refine bJ.mk Tryz.func16 λw G a=>?_;refine ac ?_;refine ar ?_;refine R.oX [(20101,dV {t with stop:=true})] [(20102,r)] [] ?_;exactλ_ _=>⟨rfl,rfl,rfl,rfl⟩
end Go.Proofs.Z
