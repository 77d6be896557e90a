/- A part of the proof. -/
import Derived.Test.YtgeljjfmcmbejaaGreatDoorPSl4
set_option linter.all false
set_option linter.deprecated false
open Go.Proofs.Tryz renaming prog→aa,f118→lR
open List renaming length_cons→an,length_nil→a9,nil_append→cg,cons_append→bE,range→aw,replicate→av,filter_nil→i7
set_option maxRecDepth 100000
set_option maxHeartbeats 4000000
namespace Go.Proofs.Z
open Go.au
variable {n k:Nat}
def XD(p:Addr)(w:World):
  CallsD aa 198 #[.pointer (some p)] .returning w λe u w'=>e= .returned (.tuple #[])/\u= .returning/\w'=w:=by
 refine callsD_of_wpS Tryz.func198 rfl λC s h=>?_;simp only [Tryz.ntmps198,dp,an,a9,Nat.reduceAdd,Nat.reduceSub,fR,Array.replicate_zero,fL,fT,cg,bE];apply wpS_seq;apply wpS_region;simp [wpOpsS,go_sem,recoverD,h,Exit.thenS];apply wpS_seq;apply wpS_region;simp [wpOpsS,go_sem,recoverD,h,Exit.thenS];refine wpS_cond (t:=false) rfl ?_;simp only [b6,ba];refine wpS_of_wp (wp_skip ?_)
 cases C
 simp_all [bodyPostS,results,Tryz.results198]
def XE(p:Addr)(v:Value)(w:World)(hp:w.cell? p=some v)(hpz:w.frozen? p=false)(hlt:p.block<w.heap.size):
  CallsD aa 198 #[.pointer (some p)] (.panicking [{v:=FOUND,recovered:=false}]) w λe u' w'=>
   e= .returned (.tuple #[])/\u'= .panicking [{v:=FOUND,recovered:=true}]/\w'=(w.alloc (.cells #[.bool true] 220)).setCell p (.pointer (some ⟨w.heap.size,0,none⟩)):=by
 refine callsD_of_wpS Tryz.func198 rfl λc₀ cs hu=>?_;simp only [Tryz.ntmps198,dp,an,a9,Nat.reduceAdd,Nat.reduceSub,fR,Array.replicate_zero,fL,fT,cg,bE];apply wpS_seq;apply wpS_region;simp [wpOpsS,go_sem,recoverD,hu,Exit.thenS,FOUND];apply wpS_seq;apply wpS_region;simp [wpOpsS,go_sem,recoverD,Exit.thenS];refine wpS_cond (t:=true) rfl ?_;simp only [a7];refine wpS_of_wp ?_
 have hta:∀w:World,(Instr.typeAssert (.iface 220 (.agg #[.bool true])) 20 220 true).run aa w= .ok (.tuple #[.agg #[.bool true],.bool true]) w:=λw=>by
  simp only [Instr.typeAssert,Sem.run_bind,run_underlying Tryz.underlying220,Result.andThen_ok];rfl
 have hz:(w.alloc (.cells #[.bool true] 220)).frozen? p=false:=(Go.RowKit.frozen?_alloc_cells w _ _ p).trans hpz;have hc:(w.alloc (.cells #[.bool true] 220)).cell? p=some v:=(World.cell?_alloc_lt (h:=hlt) ..).trans hp;have hnot:∀w:World,(Op.unary UnOp.not (.bool true)).run aa w= .ok (.bool false) w:=λw=>by first|rfl|simp [Op.unary]
 go_wp2
 all_goals first
  |(rename_i h;exact absurd (h.symm.trans hz) qr)
  |(refine⟨rfl,_,rfl,.tuple #[],?_,rfl,rfl,rfl⟩;exact results_none rfl _ _ _)
def tt:aF aa 118:=λ_ _=>qq
def S4:aF aa 198:=λ_ _=>qq
def tv(b:Nat)(w:World):(invoke (.fn (.func 198) #[.pointer (some ⟨b,0,none⟩)]) #[]).run aa w= .ok (.enter 198 #[.pointer (some ⟨b,0,none⟩)]) w:=by
 have:=S4 #[.pointer (some ⟨b,0,none⟩)] w;simpa [invoke]using this
section
variable {w0:World}{G:Pub}{post:Exit->Act->World->Prop}{b bu:Nat}{rb:Nat->Option (Nat×Nat)}{ids pn:List Nat}{Q:QV}{s:St}{a:Act}{w:World}{E:Env}
noncomputable abbrev ob (w0:World) (G:Pub) (post:Exit->Act->World->Prop) (b bu:Nat) (rb:Nat->Option (Nat×Nat)) (ids pn:List Nat):Cx:=(Cx.fv aa w0 G post [(20011,b)] rb ids pn).oQ (oq 198 bu) (Yy 2 bu (Cx.fv aa w0 G post [(20011,b)] rb ids pn).vb0)
def tw(g:aB (ob w0 G post b bu rb ids pn) s a w E):aB (Cx.fv aa w0 G post [(20011,b)] rb ids pn) s {a with defers:=[]} w E:=
 g.ZN rfl λt c h=>by
  have h:lk t [(20011,b)]=some c:=h;simp only [lk]at h
  split at h
  ·rename_i e;subst e;cases h;rfl
  ·cases h
def Sn{vc:Prop}{xs:List SV}(vars:List (Nat×List SV))(rows:List (Nat×Row))(g:aB (ob w0 G post b bu rb ids pn) s a w E)
  (h:resV aa s lR.results.toList=some (vc,xs))(A:vc)(j:∀vb:Nat->Nat,Q vb .ret xs vars rows)(H:∀t cs,lk t vars=some cs->s.var t=some cs)(d:∀i r,lk i rows=some r->s.row i=some r)
  (l:xs.all (SV.within (keys [(20011,b)]++keys vars) (keys rows))=true)(k:(vars.all λp=>p.2.all (SV.within (keys [(20011,b)]++keys vars) (keys rows)))=true):
  Leaves aa lR a.tmps (iG aa w0 G [(20011,b)] rb ids pn Q) a.defers .returning w:=by
 rw [g.defers];refine leaves_cons (f:=198) (args:=#[.pointer (some ⟨bu,0,none⟩)]) qr (tv bu w) ?_;refine(XD ⟨bu,0,none⟩ w).mono ?_;rintro e u m ⟨rfl,rfl,rfl⟩;exact yP (a:={a with defers:=[]}) vars rows h A (λvb _=>j vb) H d l k (tw g)
def one1{w:World}{cur:Array Value}{e:TypeId}(h:w.heap[b]? =some (.cells cur e (0,0)))(H:cur.size=1)(v:Value):w.cell? ⟨b,0,none⟩=some (cur.getD 0 undef)/\w.frozen? ⟨b,0,none⟩=false/\w.setCell ⟨b,0,none⟩ v=w.setRow b #[v]:=by
 refine⟨?_,?_,?_⟩
 ·simp [World.cell?,h,aL,H]
 ·simp [World.frozen?,h]
 ·rw [setCell_eq_setRow w b 0 cur e (0,0) v h]
  congr 1
  obtain⟨x,rfl⟩:∃x,cur= #[x]:=by
   cases cur with|mk l=>obtain⟨x,rfl⟩:=cz.1 (show l.length=1 from H);exact⟨x,rfl⟩
  rfl
def N6{x:SV}(vars:List (Nat×List SV))(rows:List (Nat×Row))(g:aB (ob w0 G post b bu rb ids pn) s a w E)(u:s.var 2=some [x])(O:s.get 2= .aA 2 0)
  (L:∀vb:Nat->Nat,Q vb .ret [.aA 20030 0] ((20030,[.pd (B true)])::vars) rows)(q:∀t c,lk t vars=some c->t≠2/\t≠20030/\s.var t=some c/\c.map (SV.kill 20030)=c)(A:∀i r,lk i rows=some r->s.row i=some r)
  (N:(((20030,[.pd (B true)])::vars:List (Nat×List SV)).all λp=>p.2.all (SV.within (keys [(20011,b)]++keys ((20030,[.pd (B true)])::vars:List (Nat×List SV))) (keys rows)))=true):
  Leaves aa lR a.tmps (iG aa w0 G [(20011,b)] rb ids pn Q) a.defers (.panicking [{v:=FOUND,recovered:=false}]) w:=by
 rw [g.defers];have H:E.vb 2=bu:=g.aZ 2 bu rfl;obtain⟨C,e,m,d,_⟩:=g.vars 2 _ u;rw [H]at m;have h:bu<w.heap.size:=m.lt;obtain⟨o,n,_⟩:=one1 m.2.2 (d.2 qu) undef;refine leaves_cons (f:=198) (args:=#[.pointer (some ⟨bu,0,none⟩)]) qr (tv bu w) ?_;refine(XE ⟨bu,0,none⟩ _ w o n h).mono ?_;rintro X U T ⟨rfl,rfl,rfl⟩
 have M:(w.alloc (.cells #[.bool true] 220)).heap[bu]? =some (.cells C e (0,0)):=by
  have:=(bF w (.cells #[.bool true] 220)).block bu h;rw [this];exact m.2.2
 obtain⟨_,_,P⟩:=one1 M (d.2 qu) (.pointer (some ⟨w.heap.size,0,none⟩))
 obtain⟨l,k⟩:=(tw g).fresh (K:=20030) (t:=220) (zs:=[.bool true]) (cs:=[.pd (B true)]) (vars:=vars) (rows:=rows) u rfl rfl rfl (λj D=>by
  obtain rfl:j=0:=uu D;exact⟨rfl,λ_ _ _=>.raw _ rfl⟩) q A
 rw [H,<-P]at k
 have z:a.tmps.getD 2 undef= .pointer (some ⟨bu,0,none⟩):=by
  have:=g.slots 2;rw [O]at this;have:a.tmps.getD 2 undef= .pointer (some ⟨E.vb 2,0,none⟩):=by simpa [Rel]using this
  rw [this,H]
 refine⟨_,?_,.ret,_,_,rows,_,l,L l.vb,k.post _,rfl,?_,N⟩
 ·have J:((w.alloc (.cells #[.bool true] 220)).setCell ⟨bu,0,none⟩ (.pointer (some ⟨w.heap.size,0,none⟩))).cell? ⟨bu,0,none⟩=some (.pointer (some ⟨w.heap.size,0,none⟩)):=by
   rw [P];have:=setRow_heap (w.alloc (.cells #[.bool true] 220)) bu C #[.pointer (some ⟨w.heap.size,0,none⟩)] e (0,0) M;simp [World.cell?,this]
  refine iH (vs:=[.pointer (some ⟨w.heap.size,0,none⟩)]) ?_;simp [lR,l9,z,asAddr,go_sem,J]
 ·simp [SV.within,keys]
end
def v5(z:Se)(b:Nat)(t:List PD):QV:=λ_ r x v rows=>∃a s,rows=lS {z with state:=s} a/\t.length<=a.length/\a.length+1<=t.length+2 ^ (z.order.length+1)/\zi a/\r= .ret/\
 ((x=[.pd (.raw (.pointer none))]/\v=[(20011,dL z b)]/\s=z.state)\/
  (x=[.aA 20030 0]/\v=[(20030,[.pd (B true)]),(20011,dL z b)]/\s.length=z.state.length/\Ind {z with state:=s}))
def NA(z:Se)(b c:Nat)(s:List PD)(h:c=b)(H:Inv z 0 (-1) s):bJ aa 199 [(20011,c)] [20012] [.aA 20011 0] [(20011,dL z b)] (lS z s) (tr z b s):=by
 rw [h];exact N5 z b s H
def NB(z:Se)(b:Nat)(d:List PD)(o:Inv z 0 (-1) d):bJ aa 118 [(20011,b)] [20012] [.aA 20011 0] [(20011,dL z b)] (lS z d) (v5 z b d):=by
 refine bJ.mkD Tryz.func118 rfl tt (by simp [Tryz.ntmps118]) λw G x=>?_;refine ac ?_;refine R.Sa (f:=198) (u:=2) rfl rfl rfl rfl rfl rfl λA=>?_;refine ac ?_;refine R.cX [(20011,dL z b)] [(20012,cO z.state),(20013,tu d)] [] [20012] rfl rfl rfl (λv m=>NA z b (v 20011) d (m 20011 b rfl) o) rfl zp GP ?_;rintro v-D r q n rows ⟨st2,s,rfl,rfl,rfl,j,H,k,i⟩;rcases i with⟨rfl,rfl⟩|⟨rfl,l,p⟩
 ·refine⟨rfl,rfl,⟨⟨_,_,rfl,rfl,rfl,rfl⟩,trivial⟩,?_⟩
  apply ev8;simp only [go_sem,Yx,Yh]
  exact R.ret λa w E g=>Sn (vc:=(True/\0<[SV.pd (.raw (.pointer none))].length)/\True) (xs:=[.pd (.raw (.pointer none))]) [(20011,dL z b)] (lS z st2) g (by
   show resV aa _ [.cell 2 214]=_;simp only [resV,St.get,lk,kM,St.var,t7,t8,t9,b6,ba,a7,Option.getD_some,Nat.reduceEqDiff];rfl) ⟨⟨trivial,qr⟩,trivial⟩ (λ_=>⟨st2,z.state,rfl,j,H,k,rfl,.inl ⟨rfl,rfl,rfl⟩⟩) (Has.lk ⟨rfl,trivial⟩) (Has.lk ⟨rfl,rfl,trivial⟩) rfl rfl
 ·refine⟨rfl,⟨⟨_,_,rfl,rfl,uu l,rfl⟩,trivial⟩,λa w E g=>N6 [(20011,dL z b)] (lS {z with state:=s} st2) g rfl rfl (λ_=>?_) (λt c h=>?_) (Has.lk ⟨rfl,rfl,trivial⟩) rfl⟩
  ·exact⟨st2,s,rfl,j,H,k,rfl,.inr ⟨rfl,rfl,l,p⟩⟩
  ·simp only [lk]at h
   split at h
   ·rename_i e;subst e;cases h
    exact⟨qu,qu,rfl,rfl⟩
   ·cases h
def F3:aF aa 119:=λ_ _=>qq
def RP(b d:Nat)(k:d=b)(g:Gr)(a:List (List Int))(i:List Bool)(f:List Int)(h:i.length<1000000000)(hi:a.length=i.length)(j:∀v,v<a.length->∀e∈a.getD v [],0<=e/\e.toNat<f.length)(H:f.length=g.edges.length):
  bJ aa 201 [(20001,d)] [20002,20003] [.own 20002,.pd (.raw (FC 202 b))] [(20001,gB g a)] [(20002,gI i),(20003,cO f)]
   (λ_ res xs vars rows=>res= .ret/\xs=[.pd (I (KW (zk g a i f) i.length))]/\vars=[(20001,gB g a)]/\rows=[(20002,gI i),(20003,cO f)]):=by
 subst k;exact LB _ g a i f h hi j H
def So{p:Nat->Bool}(h:KW p n>=0):∃v:Nat,KW p n=v/\v<n/\p v=true:=by
 unfold KW at h⊢
 cases H:(aw n).find? p with
 |none=>rw [H]at h;simp at h
 |some k=>exact⟨k,rfl,cd.1 (List.mem_of_find?_eq_some H),List.find?_some H⟩
def OI:∀(l:List Bool) (v:Nat),v<l.length->l.getD v false=false->(l.set v true).countP (λx=>!x)<l.countP (λx=>!x)
 |x::l,0,_,h=>by
  have h:x=false:=h;subst h;simp
 |x::l,v+1,H,h=>by
  have i:=OI l v (uu H) h;simp only [List.set_cons_succ,gP];omega
def Ma(b:Nat)(g:Gr)(a:List (List Int))(i:List Bool)(f:List Int)(d:i.length<1000000000):bJ aa 204 [(20001,b)] [20002,20003] [.aA 20001 0] [(20001,gB g a)] [(20002,gI i),(20003,cO f)]
  (λ_ res xs vars rows=>res= .ret/\xs=[.own 1006]/\vars=[(20001,gB g a)]/\rows=[(20002,gI i),(20003,cO f),(1006,⟨3,1,(KU i i.length).map I⟩)]):=by
 refine bJ.mk Tryz.func204 λw G r=>?_;refine ac ?_;refine R.fU (λ(k:Nat) s=>St.lp [2,10,11] [(12,.pd (I k)),(3,.own 1006)] [20001] [] [20002,20003] [(1006,⟨3,1,(KU i k).map I⟩)] s) (λ(k:Nat)=>k<=i.length) (λ(k:Nat)=>i.length-k) (0) qk ?_;intro k j;refine ac ?_;refine⟨λh=>?_,λh=>?_⟩
 ·have hlt:k<i.length:=uu h
  have E:i[k]=i.getD k false:=yo;have n:=N3 i k;have hs:=L5 i k;refine z8 hlt E ?_;refine⟨λH=>?_,λH=>?_⟩
  ·rw [af H]at hs
   refine ac ?_;refine R.iy 1000000000 8 rfl rfl qn rfl rfl rfl rfl sl35 rfl zq qr (congrArg (Option.map List.length) Gz) rfl Gy qz qu qu ?_;apply ev8;simp only [go_sem,wrapN (k:=k) qk];refine R.fE (k+1) qk (l:=by(simp only [go_sem,hs,bl]);all_goals(and_intros<;>first|rfl))
  ·rw [ae (by rw [H];decide)]at hs
   apply ev8;simp only [go_sem,wrapN (k:=k) qk];refine R.fE (k+1) qk (l:=xr)
 ·have e:¬k<i.length:=uu h
  refine ac ?_;refine R.rX [(20001,gB g a)] [(20002,gI i),(20003,cO f),(1006,⟨3,1,(KU i k).map I⟩)] [.own 1006] ?_;intro _ _;exact⟨rfl,rfl,rfl,by rw [show k=i.length by omega]⟩
def F4(g:Gr)(a:List (List Int))(l:List Int)(m:GI g a)(Z:g.n<1000000)(Q:bJ aa 200 [] [] [.pd (pY g),.pd (ints l)] [] [] (vy g a)):
  bJ aa 119 [] [] [.pd (pY g),.pd (ints l)] [] [] (λ_ res xs vars rows=>∃r,res= .ret/\xs=[.pd (ints r),.pd (I 0)]/\vars=[]/\rows=[]):=by
 refine bJ.mk Tryz.func119 λw G T=>?_;refine ac ?_;refine R.DZ rfl rfl (aW:=[]) (bH:=[]) (pn:=[]) [20001] [20001] rfl rfl rfl rfl rfl rfl rfl rfl rfl rfl rfl rfl qr qu rfl zr GB (λd H=>Q) (λt cs h=>xa) (λi r h=>xa) (λt ht=>vz) (λ_ _=>rfl) ?_;rintro d-D res C vars rows ⟨j,f,rfl,rfl,rfl,rfl,L,M⟩;refine⟨rfl,rfl,trivial,_,_,rfl,?_⟩;simp only [Cx.xK];generalize D 20001=b;have u:∀x:Operand,(#[x]:Array Operand).isEmpty=false:=λ_=>rfl;apply aj;simp only [go_sem,↓reduceIte,bS,u,b6];refine R.lC (b:=b) rfl rfl (ah qn) rfl rfl ?_;refine ac ?_;refine R.cX [(20001,gB g a)] [(20002,gI (j)),(20003,cO (f))] [] [20002,20003] rfl rfl rfl (λd H=>RP b (d 20001) (H 20001 b rfl) g a (j) (f) qk (by rw [m.len];omega) (λv q e z=>by have:=m.rng v q e z;omega) qk) rfl zr Ws ?_;rintro d-D res C vars rows ⟨rfl,rfl,rfl,rfl⟩;refine⟨rfl,rfl,⟨⟨_,_,rfl,rfl,rfl,rfl⟩,⟨_,_,rfl,rfl,rfl,rfl⟩,trivial⟩,?_⟩;refine ac ?_;refine R.fU (λ(p:List Bool×List Int) s=>St.lp [4,5,6] [(8,.pd (I (KW (zk g a p.1 p.2) p.1.length)))] [2,20001] [] [] [(20002,gI p.1),(20003,cO p.2)] s) (λ(p:List Bool×List Int)=>p.1.length=g.n/\p.2.length=g.edges.length) (λ(p:List Bool×List Int)=>p.1.countP (λx=>!x)) ((j,f)) (⟨L,M⟩) ?_;rintro⟨X,F⟩ ⟨N,O⟩;simp only at N O;refine ac ?_;refine⟨λh=>?_,λh=>?_⟩
 ·obtain⟨v,q,o,k⟩:=So (p:=zk g a X F) (n:=X.length) (uu h)
  have E:X.getD v false=false:=by
   unfold zk at k
   cases P:X.getD v false with
   |false=>rfl
   |true=>rw [P]at k;cases k
  have A:=OI X v o E;have J:(X.set v true).length=g.n:=by rw [cc];exact N
  have K:(nK 1 (a.getD v []) F).length=g.edges.length:=by rw [FH];exact O
  have U:v<a.length:=by rw [m.len];omega
  refine z5 q ?_;refine R.cX [(20001,gB g a)] [(20002,gI X),(20003,cO F)] [] [20002,20003] rfl rfl rfl (λd H=>Yz (d 20001) g a X F v true o U qk (λe z=>by have:=m.rng v U e z;omega)) rfl zt VA ?_;rintro d-D res C vars rows ⟨rfl,rfl,rfl,rfl⟩;refine⟨rfl,rfl,⟨⟨_,_,rfl,rfl,qr,rfl⟩,⟨_,_,rfl,rfl,by simp [FH],rfl⟩,trivial⟩,?_⟩;apply aj;simp only [go_sem,↓reduceIte,u,b6];refine R.lC (b:=b) rfl rfl (ah qn) rfl rfl ?_;refine ac ?_;refine R.cX [(20001,gB g a)] [(20002,gI (X.set v true)),(20003,cO (nK 1 (a.getD v []) F))] [] [20002,20003] rfl rfl rfl (λd H=>RP b (d 20001) (H 20001 b rfl) g a (X.set v true) (nK 1 (a.getD v []) F) qk (by rw [m.len];omega) (λv q e z=>by have:=m.rng v q e z;omega) qk) rfl zr Ws ?_;rintro d-D res C vars rows ⟨rfl,rfl,rfl,rfl⟩;refine⟨rfl,rfl,⟨⟨_,_,rfl,rfl,rfl,rfl⟩,⟨_,_,rfl,rfl,rfl,rfl⟩,trivial⟩,?_⟩;refine ac ?_;refine R.fE (X.set v true,nK 1 (a.getD v []) F) ⟨J,K⟩ (by exact A)
 ·refine ac ?_
  refine R.cX [(20001,gB g a)] [(20002,gI X),(20003,cO F)] [] [20002,20003] rfl rfl rfl (λd H=>Ma (d 20001) g a X F qk) rfl zp GA ?_;rintro d-D res C vars rows ⟨rfl,rfl,rfl,rfl⟩;refine⟨rfl,rfl,⟨⟨_,_,rfl,rfl,rfl,rfl⟩,⟨_,_,rfl,rfl,rfl,rfl⟩,trivial⟩,?_⟩;refine ac ?_;refine R.dI 1006 rfl rfl ?_;simp only [go_sem];refine R.Y6 rfl rfl ?_;refine R.rX [] [] [.pd (ints (KU X X.length)),.pd (I 0)] ?_;intro _ _;exact⟨_,rfl,rfl,rfl,rfl⟩
def s3:aF aa 63:=λ_ _=>qq
def IQ(sz:Nat)(d:PD):Prop:=d= .raw (.slice none 0 0)\/∃l,d= .list sz l
structure RS(g:Gr):Prop extends RN g where
 n12:g.n<=12
 v6:g.edges.length<=1000
def F6{l:List Int}(h:setB n l=true):∀x∈l,0<=x/\x.toNat<n:=λx a=>by
 obtain⟨j,hj,rfl⟩:=bN a;have H:=aM.1 h j (cd.2 hj);simp only [qy,bj,cE]at H;have e:l.getD j 0=l[j]:=j5;rw [e]at H;omega
def KX{α β:Type}(f:α->List β)(c:Nat):∀l:List α,(∀x∈l,(f x).length<=c)->(l.flatMap f).length<=l.length*c
 | [],_=>qr
 |x::l,h=>by
  have b:=KX f c l λy H=>h y (b3 _ H);have a:=h x bk;simp only [fI,bd,an,eo];omega
def inv0{g:Gr}{s:List W}{hold:Bool}{o:List Int}(O:RS g)(A:∀y∈s,setB g.n y.pos=true/\setB g.n y.neg=true)(n:o.Nodup)(r:∀x∈o,0<=x/\x.toNat<g.n):
  Inv ⟨g,s,hold,o,incs g,av g.n 0⟩ 0 (-1) []:=by
 have G:=O.toRN.gi
 have z:∀v:Nat,(av g.n (0:Int)).getD v 0=0:=λv=>by
  simp only [ag,ie];split<;>rfl
 have hlen:(av g.n (0:Int)).length=g.n:=fh
 have J:∀e∈g.edges,∀x∈e,0<=x/\x.toNat<g.n:=λe H=>by
  obtain⟨i,f,rfl⟩:=bN H;have:=(O.e i f).2.2.2;simpa [f]using this
 have p:∀i,(g.edges.getD i []).length<=12:=λi=>by
  by_cases f:i<g.edges.length
  ·obtain⟨_,q,_,K⟩:=O.e i f
   exact bz (kY g.n _ q K) O.n12
  ·simp [ag,dl (fw f)]
 have m:∀v,((incs g).getD v []).length<=1000:=λv=>by
  by_cases a:v<(incs g).length
  ·refine bz (kY g.edges.length _ (G.nd v a) λe H=>?_) O.v6
   exact G.rng v a e H
  ·simp [ag,dl (fw a)]
 have k:=kY g.n _ n r
 exact{
  le:=db _
  nodup:=n
  ord:=λx b=>by have:=r x b;exact⟨this.1,js⟩
  zero:=λj _ _=>z _
  edges:=⟨λe H x b=>by have:=J e H x b;exact⟨this.1,js⟩,by show(incs g).length=(av g.n (0:Int)).length;rw [hlen];exact G.len,λl D e H=>by
   obtain⟨v,a,rfl⟩:=bN D;exact G.rng v a e (by simpa [a]using H)⟩
  ways:=λy u=>⟨λx b=>by have:=F6 (A y u).1 x b;exact⟨this.1,js⟩,λx b=>by have:=F6 (A y u).2 x b;exact⟨this.1,js⟩⟩
  inc:=λe H v a=>(G.all e H v a).2.2
  fin:=λe H h=>by
   exfalso;obtain⟨t,_⟩:=O.e e H;have h:(g.edges.getD e []).all (kR ⟨g,s,hold,o,incs g,av g.n 0⟩ 1)=true:=h
   cases C:g.edges.getD e []with
   |nil=>exact t C
   |cons v l=>
    rw [C]at h;simp only [List.all_cons,bj,kR,z]at h;exact absurd h.1 qu
  last:=by show(-1:Int)<_;omega
  near:=λv=>by
   have t:=KX (λe:Int=>g.edges.getD e.toNat []) 12 ((incs g).getD v.toNat []) λe _=>p _;have q:=m v.toNat;show(v::((incs g).getD v.toNat []).flatMap λe=>g.edges.getD e.toNat []).length<_;simp only [an];omega
  steps:=by
   have t:o.length<=12:=bz k O.n12;have q:2 ^ (o.length-0+1)<=2 ^ 13:=Nat.pow_le_pow_right qu qk;have L:(2:Nat) ^ 13=8192:=rfl;show 0+2 ^ (o.length-0+1)<=100000;omega
  IK:=λd E=>by cases E}
def setOf(s:List Int)(k:Nat):List Int:=((aw k).filter λv=>s.getD v 0==1).map λ(v:Nat)=>(v:Int)
def Ct(s:List Int)(k:Nat):setOf s (k+1)=setOf s k++if(s.getD k 0==1)=true then [(k:Int)]else []:=by
 simp only [setOf,fz,eV,bl]
 congr 1
 by_cases h:(s.getD k 0==1)=true
 ·simp only [h,a7,cI,i7,ap,ax]
 ·simp only [h,ba,cI,i7,ax,b6]
def FA(s:List Int)(k:Nat):(setOf s k).length<=k:=by
 have:=gC (λv=>s.getD v 0==1) (aw k);simpa [setOf]using this
def RU{s:List Int}{x:Int}:x∈setOf s k↔∃v:Nat,v<k/\s.getD v 0=1/\x=v:=by
 simp only [setOf,aq,cG,cd,cy];constructor
 ·rintro⟨v,⟨H,h⟩,rfl⟩;exact⟨v,H,h,rfl⟩
 ·rintro⟨v,H,h,rfl⟩;exact⟨v,⟨H,h⟩,rfl⟩
def Wy(s:List Int)(k:Nat):(setOf s k).Pairwise (· < ·):=by
 refine eg.2 ((List.Pairwise.filter _ (List.pairwise_lt_range)).imp λh=>?_);omega
abbrev ExQ:QV:=λ_ res xs vars rows=>∃d p,IQ 1 d/\IQ 4 p/\res= .ret/\xs=[.pd d,.pd (.ak [p]),.pd (I 0)]/\vars=[]/\rows=[]
def NE(z:Se)(b c:Nat)(s:List PD)(h:c=b)(H:Inv z 0 (-1) s):bJ aa 118 [(20011,c)] [20012] [.aA 20011 0] [(20011,dL z b)] (lS z s) (v5 z b s):=by
 rw [h];exact NB z b s H
def RV(g:Gr)(d:List W)(hold:Bool)(O:RS g)(z:d.length<=400)(M:∀y∈d,setB g.n y.pos=true/\setB g.n y.neg=true)(P:bg aa 28 [.pd (pY g)] [B true])(hC:bJ aa 192 [] [] [.pd (pY g)] [] [] (J5 g)):
  bJ aa 63 [] [] [.pd (pY g),.pd (ways d),.pd (B hold)] [] [] ExQ:=by
 have avl:=O.n12;refine bJ.mk Tryz.func63 λw G rb=>?_;refine ac ?_;refine R.DZ rfl rfl (aW:=[]) (bH:=[]) (pn:=[]) [20011] [20011] rfl rfl rfl rfl rfl rfl rfl rfl rfl rfl rfl rfl qr qu rfl zt GF (λq j=>GO g d hold O.toRN qk z M P hC) (λt U h=>xa) (λi r h=>xa) (λt ht=>vz) (λ_ _=>rfl) ?_;rintro q-dn m L f rows ⟨o,C,A,rfl,rfl,rfl,rfl⟩;have hI:=inv0 (hold:=hold) O M C A;refine⟨rfl,rfl,trivial,_,_,rfl,?_⟩;simp only [Cx.xK];generalize dn 20011=b;have Z:((0:Int) !=0)=false:=rfl;refine zw Z ?_;refine R.cX [(20011,dL ⟨g,d,hold,o,incs g,av g.n 0⟩ b)] [(20012,cO (av g.n 0)),(20013,tu [])] [20030] [20012] rfl rfl rfl (λq j=>NE ⟨g,d,hold,o,incs g,av g.n 0⟩ b (q 20011) [] (j 20011 b rfl) hI) rfl zp tt ?_;rintro jv-YJ m L f rows ⟨x,a,rfl,p,N,hok,rfl,n⟩;rcases n with⟨rfl,rfl,rfl⟩|⟨rfl,rfl,H,Bo⟩
 ·refine⟨rfl,rfl,⟨⟨_,_,rfl,rfl,rfl,rfl⟩,trivial⟩,?_⟩
  refine R.Y6 rfl rfl ?_;simp only [go_sem];refine R.dI 20013 rfl rfl ?_;refine ar ?_;refine R.dA 6 80 mixed qv ?_;simp only [go_sem];refine ac ?_;exact R.Di (vc:=_) (xs:=[.pd (.raw (.slice none 0 0)),.pd (.ak [.list 4 x]),.pd (I 0)]) [] [] rfl (by simp [od,oF]) (λ_ _=>⟨_,_,.inl rfl,.inr ⟨_,rfl⟩,rfl,rfl,rfl,rfl⟩) (λt U h=>xa) (λi r h=>xa) rfl rfl
 ·refine⟨rfl,rfl,⟨⟨_,_,rfl,rfl,uu H,rfl⟩,trivial⟩,?_⟩
  refine R.Y6 rfl rfl ?_;apply aj;simp only [go_sem,↓reduceIte,bS];refine R.mV 12 1012 3 1 qn rfl rfl ?_;simp only [go_sem];have H:a.length=g.n:=H.trans fh;refine R.fU (λ(k:Nat) s=>St.lp [3,6,7,8,10,44,45] [(46,.pd (I k)),(12,.own 1012)] [3,7] [] [] [(1012,cO (setOf a k)),(20012,cO a)] s) (λ(k:Nat)=>k<=g.n) (λ(k:Nat)=>g.n-k) (0) (db _) ?_;intro k hk;have hsn:=Ct a k;have K:=FA a k;refine z5 H ?_;refine⟨λh=>?_,λh=>?_⟩
  ·have hlt:k<a.length:=j4
   have e1:a[k]=a.getD k 0:=yo;refine z8 hlt e1 ?_;refine⟨λE=>?_,λE=>?_⟩
   ·refine ac ?_
    refine R.append (r:=⟨3,1,(setOf a k).map I⟩) (es:=[I k]) rfl rfl (ah qn) rfl rfl rfl rfl sl35 rfl zq qr (congrArg (Option.map List.length) Gz) rfl (zO _) kq kj ?_;rw [E,af rfl]at hsn;have J:(setOf a k).map I++[I k]=(setOf a (k+1)).map I:=by rw [hsn];simp
    apply ev8;simp only [go_sem,wrapN (k:=k) qk];refine R.fE (k+1) qk (l:=by(simp only [go_sem,J]);all_goals(and_intros<;>first|rfl))
   ·apply ev8;simp only [go_sem,wrapN (k:=k) qk]
    rw [E,ae qu,el]at hsn;refine R.fE (k+1) qk (l:=xj)
  have p:k=g.n:=j4;subst p;refine ac ?_;refine R.dI 1012 rfl rfl ?_;simp only [go_sem];clear hsn K h;have Q:=O.toRN.gi
  have D:pp g (setOf a g.n):=λe he=>by
   have T:¬(g.edges.getD e []).all (kR ⟨g,d,hold,o,incs g,a⟩ 1)=true:=Bo e he
   obtain⟨u,hu,h2⟩:∃u∈g.edges.getD e [],¬kR ⟨g,d,hold,o,incs g,a⟩ 1 u=true:=by
    simpa using T
   refine⟨u,hu,λhm=>h2 ?_⟩;obtain⟨v,h3,h4,rfl⟩:=RU.1 hm;show(a.getD (Int.toNat (v:Int)) 0==1)=true;rw [Int.toNat_natCast,h4];rfl
  refine R.cX [] [] [] [] rfl rfl rfl (λq j=>F4 g (incs g) (setOf a g.n) Q qk (N4 g (incs g) (setOf a g.n) Q qk O.m P (GE g O.toRN) (Wy _ _) (λv hv=>by obtain⟨u,T,_,rfl⟩:=RU.1 hv;omega) D)) rfl zr F3 ?_;rintro vb4-X m L f rows ⟨r,rfl,rfl,rfl,rfl⟩;refine⟨rfl,rfl,trivial,?_⟩;refine ac ?_;exact R.Di (vc:=_) (xs:=[.pd (ints r),.pd (.ak [.raw (.slice none 0 0)]),.pd (I 0)]) [] [] rfl (by simp [od,oF]) (λ_ _=>⟨_,_,.inr ⟨_,rfl⟩,.inl rfl,rfl,rfl,rfl,rfl⟩) (λt U h=>xa) (λi r h=>xa) rfl rfl
abbrev hyD(n:Int)(cost:List Int)(l:LL):PD:=.ak [I n,ints cost,lls l]
def zS(n:Int)(e:List Int):Bool:=decide (e≠[])&&setB n e
def pJ(n:Int)(C:List Int)(l:LL):Bool:=jE n C&&decide (l.length<=20000)&&l.all (zS n)&&(minL l==l)
def RX(n:Int)(C:List Int)(l:LL):bg aa 28 [.pd (hyD n C l)] [B (pJ n C l)]:=by
 refine bg.mk Tryz.func28 λw G=>?_;refine ac ?_;refine R.kC (ZP n C) rfl rfl ze ?_
 by_cases a:jE n C=true
 ·by_cases m:l.length<=20000
  ·have D:decide ((l.length:Int)>20000)=false:=qz
   refine zz a D ?_;refine R.fU (λ(k:Nat) s=>St.lp [1,18,19] [(20,.pd (I k))] [1] [] [] [] s) (λ(k:Nat)=>k<=l.length/\(l.take k).all (zS n)=true) (λ(k:Nat)=>l.length-k) (0) (⟨qk,qr⟩) ?_;rintro k ⟨u,H⟩
   by_cases t:k<l.length
   ·have f:decide ((k:Int)<(l.length:Int))=true:=qz
    have d:zS n l[k]=false->pJ n C l=false:=λh=>by
     have:l.all (zS n)=false:=fm.2 ⟨l[k],am t,by simp [h]⟩;simp [pJ,this]
    by_cases b:l[k]=[]
    ·have i:((l[k].length:Int)==0)=true:=by simp [b]
     refine z9 f t i ?_;refine R.rW ?_;rw [d (by simp [zS,b])];rfl
    ·have i:((l[k].length:Int)==0)=false:=qz
     refine z9 f t i ?_;refine R.kC (Kk n l[k]) rfl rfl ze ?_
     cases j:setB n l[k]
     ·refine ar ?_
      refine R.rW ?_;rw [d (by simp [zS,j])];rfl
     ·apply aj;simp only [go_sem,↓reduceIte,wrapN (k:=k) qk]
      refine R.fE (k+1) ⟨qk,by rw [bh t,gn,H];simp [zS,j,b]⟩
   ·have f:decide ((k:Int)<(l.length:Int))=false:=qz
    rw [bi qk]at H
    have q:∀e∈l,e.length<1000000/\∀x∈e,-9223372036854775808<=x/\x<=9223372036854775807:=λe p=>by
     have g:=aM.1 H e p;simp only [zS,bj]at g;have r:=a;simp only [jE,bj,cE]at r;obtain⟨N,rfl⟩:∃N:Nat,n=N:=⟨n.toNat,qk⟩;have v:=F5 g.2;exact⟨qk,λx o=>by have:=F6 g.2 x o;omega⟩
    refine zw f ?_;refine R.dA 5 80 mixed qv ?_;simp only [go_sem];refine RY.kW (Wp l qk q) rfl rfl zd ?_;refine z6 ?_;refine R.kC (ZO (minL l) l) rfl rfl zg ?_;refine ar ?_;refine R.rW ?_;rw [show pJ n C l=(minL l==l) by simp [pJ,a,m,H]];rfl
  ·have D:decide ((l.length:Int)>20000)=true:=qz
   refine zz a D ?_;refine R.rW ?_;rw [show pJ n C l=false by simp [pJ,m]];rfl
 ·have a:jE n C=false:=uu a
  refine zw a ?_;refine R.rW ?_;rw [show pJ n C l=false by simp [pJ,a]];rfl
def RZ{n:Int}{C:List Int}{l:LL}(h:pJ n C l=true):0<=n/\∀e∈l,e≠[]/\setB n e=true:=by
 simp only [pJ,bj,jE,cE,aM,zS]at h;exact⟨h.1.1.1.1.1.1,λe H=>⟨(h.1.2 e H).1,(h.1.2 e H).2⟩⟩
def XF{n:Int}{l:List Int}(h:setB n l=true):l.Pairwise (· < ·):=by
 have key:∀d i (hi:i+d+1<l.length),l[i]<l[i+d+1]:=by
  intro d
  induction d with
  |zero=>
   intro i hi;have H:=aM.1 h (i+1) (cd.2 hi);simp only [qy,bj,cE,du,cy,lc]at H;have E:l.getD (i+1) 0=l[i+1]:=ym;have e:l.getD i 0=l[i]:=by simp [ag,show i<l.length by omega]
   rw [E,e]at H;rcases H.2 with a|a
   ·omega
   ·exact a
  |succ d f=>
   intro i hi;have k:=f i qk;have H:=aM.1 h (i+(d+1)+1) (cd.2 hi);simp only [qy,bj,cE,du,cy,lc]at H;have E:l.getD (i+(d+1)+1) 0=l[i+(d+1)+1]:=ym;have e:l.getD (i+(d+1)) 0=l[i+(d+1)]:=by simp [ag,show i+(d+1)<l.length by omega]
   rw [E,e]at H;have m:l[i+d+1]=l[i+(d+1)]:=by congr 1
   rcases H.2 with a|a
   ·omega
   ·omega
 refine cB.2 λi j hi g b=>?_;obtain⟨d,rfl⟩:=Nat.exists_eq_add_of_lt b;exact key d i g
def ti{cost:List Int}{l:LL}(h:pJ n cost l=true)(hn:n<=12)(hl:l.length<=1000):RS ⟨n,cost,l⟩ where
 n:=by show n<_;omega
 m:=by show l.length<_;omega
 e:=λi hi=>by
  have hi:i<l.length:=hi;have e1:l.getD i []=l[i]:=ym;show l.getD i []≠[]/\(l.getD i []).Nodup/\(l.getD i []).length<1000000/\∀v∈l.getD i [],0<=v/\v.toNat<n;rw [e1];obtain⟨h1,h2⟩:=(RZ h).2 l[i] (am hi);have:=F5 h2;exact⟨h1,(XF h2).imp λh=>qk,qk,F6 h2⟩
 n12:=hn
 v6:=hl
mutual
def Ax:Plan->Bool
 | .mk k _ kids _ _ _ _ _=>v7 kids||k==6
def v7:List Plan->Bool
 | []=>false
 |p::l=>Ax p||v7 l
end
def Bq{α:Type}{f:α->Bool}{l:List α}(h:k<l.length):(l.drop k).all f=(f l[k]&&(l.drop (k+1)).all f):=by
 rw [drop_cons h];rfl
mutual
def cnt:Plan->Int
 | .mk _ _ kids _ _ _ _ _=>IU kids 1
def IU:List Plan->Int->Int
 | [],n=>n
 |p::l,n=>if n<1000 then IU l (IntKind.i64.wrap (n+cnt p))else n
end
def Sp(p:Plan):cnt p=IU p.kids 1:=by cases p;rfl
def zT(l:List Plan)(k:Nat):Int:=(l.take k).foldl (λn p=>IntKind.i64.wrap (n+cnt p)) 1
def OL{l:List Plan}(h:k<l.length):zT l (k+1)=IntKind.i64.wrap (zT l k+cnt l[k]):=by
 unfold zT;rw [bh h,k7];rfl
def FE{l:List Plan}(h:k<l.length)(n:Int):IU (l.drop k) n=if n<1000 then IU (l.drop (k+1)) (IntKind.i64.wrap (n+cnt l[k]))else n:=by
 rw [drop_cons h,IU]
def WA:∀(n:Nat) (p:Plan),SizeOf.sizeOf p<=n->aG aa 62 [.pd (plan p)] [I (cnt p)]
 |0,p,h=>by cases p;simp at h
 |n+1,p,h=>by
  have i:∀x∈p.kids,aG aa 62 [.pd (plan x)] [I (cnt x)]:=λx d=>WA n x (by have:=Qa d;omega);have b:=Sp p;rw [bC p];refine aG.mk Tryz.func62 λw G=>?_;generalize f:p.kids=ks at i b;refine ai ?_;refine R.fU (λ(k:Nat) s=>St.lp [1,2,24] [(3,.pd (I (zT ks k))),(4,.pd (I k))] [1] [] [] [] s) (λ(k:Nat)=>k<=ks.length/\cnt p=IU (ks.drop k) (zT ks k)) (λ(k:Nat)=>ks.length-k) (0) (⟨qk,by simpa [zT]using b⟩) ?_;rintro k ⟨g,H⟩
  by_cases t:k<ks.length
  ·have e:decide ((k:Int)<(ks.length:Int))=true:=qz
   rw [FE t]at H
   by_cases a:zT ks k<1000
   ·have E:decide (zT ks k<1000)=true:=uu a
    rw [af a,<-OL t]at H;apply aj;simp only [go_sem,↓reduceIte,e,E,getD_map,t,Ig,Vo];repeat refine⟨qk,?_⟩
    refine R.bound 18 (sz:=8) (ds:=ks.map plan) rfl λhl=>?_;have hl:ks.length<=9223372036854775807:=xe;refine R.kC (i ks[k] (am t)) rfl rfl zd ?_;apply aj;simp only [go_sem,↓reduceIte,wrapN (k:=k) qk];rw [<-OL t];refine R.fE (k+1) ⟨qk,H⟩
   ·have E:decide (zT ks k<1000)=false:=uu a
    rw [ae a]at H;refine zz e E ?_;refine R.rC ?_;rw [H];rfl
  ·have e:decide ((k:Int)<(ks.length:Int))=false:=qz
   rw [cC qk,IU]at H;refine zw e ?_;refine R.rC ?_;rw [H];rfl
def Si(p:Plan):aG aa 62 [.pd (plan p)] [I (cnt p)]:=WA _ p (a3 _)
mutual
def zy:Plan->Bool
 | .mk _ _ kids tests cols _ _ a=>mj kids&&(decide ((a.length:Int)<=40)&&decide ((tests.length:Int)<=20)&&decide ((cols.length:Int)<=40))
def mj:List Plan->Bool
 | []=>true
 |p::l=>zy p&&mj l
end
def WB:∀l:List Plan,mj l=l.all zy
 | []=>rfl
 |p::l=>by rw [mj,WB l];rfl
abbrev ml(p:Plan):Bool:=decide ((p.attrs.length:Int)<=40)&&decide ((p.tests.length:Int)<=20)&&decide ((p.cols.length:Int)<=40)
def Sq(p:Plan):zy p=(p.kids.all zy&&ml p):=by
 cases p;rw [zy,WB];rfl
def WC:∀(n:Nat) (p:Plan),SizeOf.sizeOf p<=n->aG aa 116 [.pd (plan p)] [B (zy p)]
 |0,p,h=>by cases p;simp at h
 |n+1,p,h=>by
  have i:∀x∈p.kids,aG aa 116 [.pd (plan x)] [B (zy x)]:=λx g=>WC n x (by have:=Qa g;omega);have f:=Sq p;rw [bC p];refine aG.mk Tryz.func116 λw G=>?_;generalize j:p.kids=ks at i f;refine ai ?_;refine R.fU (λ(k:Nat) s=>St.lp [1,18,19,20,21,22,23,24,25,26,27,28,29,30,31,32,33] [(3,.pd (I k))] [1] [] [] [] s) (λ(k:Nat)=>k<=ks.length/\zy p=((ks.drop k).all zy&&ml p)) (λ(k:Nat)=>ks.length-k) (0) (⟨qk,uu f⟩) ?_;rintro k ⟨m,H⟩
  by_cases t:k<ks.length
  ·have e:decide ((k:Int)<(ks.length:Int))=true:=qz
   rw [Bq t]at H;apply aj;simp only [go_sem,↓reduceIte,e,getD_map,t,Ig,Vo];repeat refine⟨qk,?_⟩
   refine R.bound 6 (sz:=8) (ds:=ks.map plan) rfl λhl=>?_;have hl:ks.length<=9223372036854775807:=xe;refine R.kC (i ks[k] (am t)) rfl rfl zd ?_
   cases d:zy ks[k]with
   |false=>
    rw [d]at H;refine ar ?_;refine R.rC ?_;rw [H];rfl
   |true=>
    rw [d]at H;apply aj;simp only [go_sem,↓reduceIte,wrapN (k:=k) qk];refine R.fE (k+1) ⟨qk,uu H⟩
  ·have e:decide ((k:Int)<(ks.length:Int))=false:=qz
   rw [cC qk]at H
   (refine dD [] 120 _ _ ?_;simp only [go_sem,Go.au.eF,jr,↓reduceIte,b9,PD.raw.injEq,Value.bool.injEq,Tryz.results116,e])
   have l:zy p=ml p:=uu H;rw [l];unfold ml;generalize decide ((p.attrs.length:Int)<=40)=a;generalize decide ((p.tests.length:Int)<=20)=b;generalize decide ((p.cols.length:Int)<=40)=c
   cases a<;>cases b<;>cases c<;>simp
def FF(p:Plan):aG aa 116 [.pd (plan p)] [B (zy p)]:=WC _ p (a3 _)
def smA(a:Attr):Bool:=!decide ((a.was.length:Int)>10) && !decide ((a.dflt.text.size:Int)>300)
def GR(t:dO):Bool:=!decide ((t.attrs.length:Int)>20) && !decide ((t.key.length:Int)>20) && !decide ((t.name.size:Int)>100)&&t.attrs.all smA
def IV(l:List dO):Bool:=!decide ((l.length:Int)>24)&&l.all GR
def FG(tl:List dO):aG aa 115 [.pd (schema tl)] [B (IV tl)]:=by
 refine aG.mk Tryz.func115 λw G=>?_
 by_cases f:(tl.length:Int)>24
 ·have j:decide ((tl.length:Int)>24)=true:=uu f
  have q:IV tl=false:=by unfold IV;rw [j];rfl
  refine zw j ?_;refine R.rC ?_;rw [q];rfl
 ·have j:decide ((tl.length:Int)>24)=false:=uu f
  have p:IV tl=tl.all GR:=by unfold IV;rw [j];rfl
  refine zw j ?_;refine R.fU (λ(k:Nat) s=>St.lp [1] [(3,.pd (I k))] [1] [] [] [] s) (λ(k:Nat)=>k<=tl.length/\IV tl=(tl.drop k).all GR) (λ(k:Nat)=>tl.length-k) (0) (⟨qk,uu p⟩) ?_;rintro k ⟨t,h⟩
  by_cases H:k<tl.length
  ·have E:decide ((k:Int)<(tl.length:Int))=true:=qz
   rw [Bq H]at h
   cases a:decide ((tl[k].attrs.length:Int)>20)with
   |true=>
    have e:GR tl[k]=false:=by unfold GR;rw [a];rfl
    refine z9 E H a ?_;refine R.rC ?_;rw [h,e];rfl
   |false=>
   cases d:decide ((tl[k].key.length:Int)>20)with
   |true=>
    have e:GR tl[k]=false:=by unfold GR;rw [a,d];rfl
    refine qd E H a d ?_;refine R.rC ?_;rw [h,e];rfl
   |false=>
   cases n:decide ((tl[k].name.size:Int)>100)with
   |true=>
    have e:GR tl[k]=false:=by unfold GR;rw [a,d,n];rfl
    apply aj;simp only [go_sem,↓reduceIte,E,getD_map,H,a,d,n];repeat refine⟨qk,?_⟩
    refine R.rC ?_;rw [h,e];rfl
   |false=>
    have e:GR tl[k]=tl[k].attrs.all smA:=by unfold GR;rw [a,d,n];rfl
    rw [e]at h;apply aj;simp only [go_sem,↓reduceIte,E,getD_map,H,a,d,n];repeat refine⟨qk,?_⟩
    generalize A:tl[k].attrs=ats at h a;refine R.fU (λ(m:Nat) s=>St.lp [1,3,4,15,16] [(5,.pd (I m))] [1,4] [] [] [] s) (λ(m:Nat)=>m<=ats.length/\IV tl=((ats.drop m).all smA&&(tl.drop (k+1)).all GR)) (λ(m:Nat)=>ats.length-m) (0) (⟨qk,uu h⟩) ?_;rintro m ⟨r,h⟩
    by_cases b:m<ats.length
    ·have g:decide ((m:Int)<(ats.length:Int))=true:=qz
     rw [Bq b]at h
     cases x:decide ((ats[m].was.length:Int)>10)with
     |true=>
      have i:smA ats[m]=false:=by unfold smA;rw [x];rfl
      refine z9 g b x ?_;refine R.rC ?_;rw [h,i];rfl
     |false=>
     cases l:decide ((ats[m].dflt.text.size:Int)>300)with
     |true=>
      have i:smA ats[m]=false:=by unfold smA;rw [x,l];rfl
      refine qd g b x l ?_;refine R.rC ?_;rw [h,i];rfl
     |false=>
      have i:smA ats[m]=true:=by unfold smA;rw [x,l];rfl
      rw [i]at h;have o:ats.length<=20:=by simp at a;omega
      apply aj;simp only [go_sem,↓reduceIte,g,getD_map,b,x,l,wrapN (k:=m) qk];repeat refine⟨qk,?_⟩
      refine R.fE (m+1) ⟨qk,uu h⟩
    ·have g:decide ((m:Int)<(ats.length:Int))=false:=qz
     rw [cC qk]at h;apply aj;simp only [go_sem,↓reduceIte,g,wrapN (k:=k) qk];refine R.fE (k+1) ⟨qk,uu h⟩
  ·have E:decide ((k:Int)<(tl.length:Int))=false:=qz
   rw [cC qk]at h;refine zw E ?_;refine R.rC ?_;rw [h];rfl
def Cu(tl:List dO)(p:Plan)(n:Int):aG aa 61 [.pd (schema tl),.pd (plan p),.pd (PD.raw (.slice none 0 0)),.pd (I n)] [B (IV tl && !decide (cnt p>40)&&zy p)]:=by
 have a:=FG tl;have H:=Si p;have h:=FF p;rw [bC p]at H h⊢;refine aG.mk Tryz.func61 λw G=>?_;refine ac ?_;refine R.kC (a) rfl rfl zd ?_
 cases f:IV tl with
 |false=>
  (refine ar ?_)
  refine R.rC ?_;rfl
 |true=>
  (refine ar ?_)
  refine R.kC (H) rfl rfl zd ?_
  cases e:decide (cnt p>40)with
  |true=>
   refine zw e ?_;refine R.rC ?_;rfl
  |false=>
   refine zw e ?_;refine R.kC (h) rfl rfl zd ?_
   cases d:zy p with
   |false=>
    (refine ar ?_)
    refine R.rC ?_;rfl
   |true=>
    have b:decide (((0:Nat):Int)>30)=false:=rfl;have E:decide (((0:Nat):Int)<((0:Nat):Int))=false:=rfl;refine zw b ?_;refine R.fU (λ(k:Nat) s=>St.lp [2,3] [(9,.pd (I k))] [4,5] [] [] [] s) (λ(k:Nat)=>k=0) (λ(k:Nat)=>0) (0) (rfl) ?_;rintro k rfl;refine zw E ?_;refine R.rC ?_;rfl
def Sj(f:dZ):Bool:=!decide ((f.row.length:Int)>20)&&f.row.all λv=>!decide ((v.text.size:Int)>300)
def iF(tl:List dO)(p:Plan)(f:List dZ)(n:Int):Bool:=(IV tl && !decide (cnt p>40)&&zy p) && !decide ((f.length:Int)>n) && !decide (cnt p>20)&&f.all Sj
def OM(tl:List dO)(p:Plan)(f:List dZ)(n:Int)(z:n<=1000):aG aa 34 [.pd (schema tl),.pd (plan p),.pd (iC f),.pd (I n)] [B (iF tl p f n)]:=by
 have q:=Cu tl p n;have r:=Si p;rw [bC p]at q r⊢;refine aG.mk Tryz.func34 λw G=>?_;refine ac ?_;refine R.kC (q) rfl rfl zj ?_;generalize a:(IV tl && !decide (cnt p>40)&&zy p)=b1
 cases b1 with
 |false=>
  have e:iF tl p f n=false:=by unfold iF;rw [a];rfl
  refine ar ?_;refine R.rC ?_;rw [e];rfl
 |true=>
 cases E:decide ((f.length:Int)>n)with
 |true=>
  have e:iF tl p f n=false:=by unfold iF;rw [a,E];rfl
  refine zw E ?_;refine R.rC ?_;rw [e];rfl
 |false=>
  refine zw E ?_;refine R.kC (r) rfl rfl zd ?_
  cases l:decide (cnt p>20)with
  |true=>
   have e:iF tl p f n=false:=by unfold iF;rw [a,E,l];rfl
   refine zw l ?_;refine R.rC ?_;rw [e];rfl
  |false=>
   have x:iF tl p f n=f.all Sj:=by unfold iF;rw [a,E,l];rfl
   have u:f.length<=1000:=by simp at E;omega
   refine zw l ?_;refine R.fU (λ(k:Nat) s=>St.lp [2] [(9,.pd (I k))] [4,5] [] [] [] s) (λ(k:Nat)=>k<=f.length/\iF tl p f n=(f.drop k).all Sj) (λ(k:Nat)=>f.length-k) (0) (⟨qk,uu x⟩) ?_;rintro k ⟨C,h⟩
   by_cases H:k<f.length
   ·have j:decide ((k:Int)<(f.length:Int))=true:=qz
    rw [Bq H]at h
    cases d:decide ((f[k].row.length:Int)>20)with
    |true=>
     have o:Sj f[k]=false:=by unfold Sj;rw [d];rfl
     refine z9 j H d ?_;refine R.rC ?_;rw [h,o];rfl
    |false=>
     have o:Sj f[k]=f[k].row.all λv=>!decide ((v.text.size:Int)>300):=by unfold Sj;rw [d];rfl
     rw [o]at h;have t:f[k].row.length<=20:=by simp at d;omega
     refine z9 j H d ?_;refine R.fU (λ(m:Nat) s=>St.lp [2,9,31,32] [(10,.pd (I m))] [4,5] [] [] [] s) (λ(m:Nat)=>m<=f[k].row.length/\iF tl p f n=(((f[k].row.drop m).all λv=>!decide ((v.text.size:Int)>300))&&(f.drop (k+1)).all Sj)) (λ(m:Nat)=>f[k].row.length-m) (0) (⟨qk,uu h⟩) ?_;rintro m ⟨A,h⟩
     by_cases b:m<f[k].row.length
     ·have i:decide ((m:Int)<(f[k].row.length:Int))=true:=qz
      rw [Bq b]at h
      cases g:decide ((f[k].row[m].text.size:Int)>300)with
      |true=>
       rw [g]at h;refine qd i H b g ?_;refine R.rC ?_;rw [h];rfl
      |false=>
       rw [g]at h;apply aj;simp only [go_sem,↓reduceIte,i,getD_map,H,b,g,wrapN (k:=m) qk];repeat refine⟨qk,?_⟩
       refine R.fE (m+1) ⟨qk,uu h⟩
     ·have i:decide ((m:Int)<(f[k].row.length:Int))=false:=qz
      rw [cC qk]at h;apply aj;simp only [go_sem,↓reduceIte,i,getD_map,H,wrapN (k:=k) qk];repeat refine⟨qk,?_⟩
      refine R.fE (k+1) ⟨qk,uu h⟩
   ·have j:decide ((k:Int)<(f.length:Int))=false:=qz
    rw [cC qk]at h;refine zw j ?_;refine R.rC ?_;rw [h];rfl
end Go.Proofs.Z
namespace Go.au
variable {l m:List PD}{d D:PD}
inductive lT:PD->PD->Prop
 |same (d:PD):lT d d
 |nil (sz:Nat):lT (.raw (.slice none 0 0)) (.list sz [])
 |ak {l m:List PD} (hl:l.length=m.length) (h:∀j,lT (l.getD j (.ak [])) (m.getD j (.ak []))):lT (.ak l) (.ak m)
 |list (sz:Nat) {l m:List PD} (hl:l.length=m.length) (h:∀j,lT (l.getD j (.ak [])) (m.getD j (.ak []))):lT (.list sz l) (.list sz m)
inductive yc:List PD->List PD->Prop
 |nil:yc [] []
 |cons {d e:PD} {l m:List PD} (h:lT d e) (t:yc l m):yc (d::l) (e::m)
def yc.len(h:yc l m):l.length=m.length:=by induction h with|nil=>rfl|cons _ _ i=>simp [i]
def yc.get(h:yc l m):∀j,lT (l.getD j (.ak [])) (m.getD j (.ak [])):=by
 induction h with
 |nil=>intro j;simp;exact .same _
 |cons h _ i=>intro j;cases j with
  |zero=>simpa using h
  |succ j=>simpa using i j
def lT.Ay(h:yc l m):lT (.ak l) (.ak m):=.ak h.len h.get
def lT.vA(sz:Nat)(h:yc l m):lT (.list sz l) (.list sz m):=.list sz h.len h.get
def lT.width(h:lT d D):D.width=d.width:=by
 cases h with
 |same _=>rfl
 |nil _=>rfl
 |ak H _=>exact H.symm
 |list _ _ _=>rfl
def lT.rds{w:World}{G:Pub}(h:lT d D):(∀v,Rd w G v d->Rd w G v D)/\∀j v,Rd w G v (d.cell j)->Rd w G v (D.cell j):=by
 induction h with
 |same _=>exact⟨λ_ h=>h,λ_ _ h=>h⟩
 |nil s=>
  have:∀v,Rd w G v (.raw (.slice none 0 0))->Rd w G v (.list s []):=λv H=>by
   have:v= .slice none 0 0:=by cases H;rfl
   subst this;exact .nil s
  exact⟨this,λ_ v H=>this v H⟩
 |ak g _ k=>exact⟨λv H=>H.XT.elim,λj v H=>(k j).1 v H⟩
 | @list s l m g h k=>
  have:∀v,Rd w G v (.list s l)->Rd w G v (.list s m):=by
   intro v H
   cases H with
   |nil _=>
    have:m=[]:=d8.1 (uu g.symm);subst this;exact .nil s
   |empty _ a=>
    have:m=[]:=d8.1 (uu g.symm);subst this;exact .empty s a
   |list _ _ b off C q p x r Q e n=>
    rw [g];exact .list s m b off C q qk x (λi o=>by rw [(h i).width];exact r i qk) (λi j o f=>Q i j qk f) (λi j o f=>e i j qk f) (λi j o f=>(k i).2 j _ (n i j qk f))
  exact⟨this,λ_ v H=>this v H⟩
def lT.rd{w:World}{G:Pub}{v:Value}(h:lT d D)(H:aH w G v d):aH w G v D:=by
 cases h with
 |same _=>exact H
 |nil s=>exact(lT.nil s).rds.1 v H
 |ak l h=>
  obtain⟨C,rfl,a,e⟩:=H;exact⟨C,rfl,by rw [a,l],λj b=>(h j).rds.1 _ (e j (by rw [l];exact b))⟩
 |list s l h=>exact(lT.list s l h).rds.1 v H
def R.YM{C:Cx}{s:St}{k:List KI}(t:Nat)(n:t<s.n)(H:s.get t= .pd d)(h:lT d D)(next:R C k (s.set t (.pd D))):R C k s:=by
 intro a w E g;refine next a w E (g.Aw n ?_ qr)
 have:=g.slots t;rw [H]at this;exact h.rd this
end Go.au
namespace Go.Proofs.Z
open Go.au
abbrev WE(e:List Int):Bool:=decide (e.length<=10)
def IW(l:LL)(n:Int):Bool:=l.all WE&&decide ((l.length:Int)<=n)
def Mb(l:LL)(n:Int):aG aa 60 [.pd (lls l),.pd (I n)] [B (IW l n)]:=by
 refine aG.mk Tryz.func60 λw G=>?_;refine R.bound 0 (sz:=1) (ds:=l.map ints) rfl λhl=>?_;have hl:l.length<=9223372036854775807:=xe;refine ac ?_;refine R.fU (λ(k:Nat) s=>St.lp [0,1] [(5,.pd (I k))] [] [] [] [] s) (λ(k:Nat)=>k<=l.length/\(l.take k).all WE=true) (λ(k:Nat)=>l.length-k) (0) (⟨qk,qr⟩) ?_;rintro k ⟨b,h⟩
 by_cases H:k<l.length
 ·have f:decide ((k:Int)<(l.length:Int))=true:=qz
  by_cases a:l[k].length<=10
  ·have d:decide ((l[k].length:Int)>10)=false:=qz
   apply aj;simp only [go_sem,↓reduceIte,f,getD_map,H,d,wrapN (k:=k) qk];repeat refine⟨qk,?_⟩
   refine R.fE (k+1) ⟨qk,by rw [bh H,gn,h];simp [WE,a]⟩
  ·have d:decide ((l[k].length:Int)>10)=true:=qz
   refine z9 f H d ?_;refine R.rC ?_;have:l.all WE=false:=fm.2 ⟨l[k],am H,by simp [WE];omega⟩;rw [show IW l n=false by simp [IW,this]];rfl
 ·have f:decide ((k:Int)<(l.length:Int))=false:=qz
  rw [bi qk]at h;refine zw f ?_;refine R.rC ?_;rw [show IW l n=decide ((l.length:Int)<=n) by simp [IW,h]];rfl
def qp(n:Int)(C:List Int)(l:LL)(a b:Int):Bool:=decide (n<=a)&&decide ((C.length:Int)<=a)&&IW l b
def Cw(n:Int)(C:List Int)(l:LL)(a b:Int):aG aa 33 [.pd (hyD n C l),.pd (I a),.pd (I b)] [B (qp n C l a b)]:=by
 refine aG.mk Tryz.func33 λw G=>?_
 by_cases f:n<=a
 ·have d:decide (n<=a)=true:=uu f
  by_cases e:(C.length:Int)<=a
  ·have D:decide ((C.length:Int)<=a)=true:=uu e
   refine zz d D ?_;refine R.kC (Mb l b) rfl rfl ze ?_;refine ar ?_;refine R.rC ?_;rw [show qp n C l a b=IW l b by simp [qp,f,e]];rfl
  ·have D:decide ((C.length:Int)<=a)=false:=uu e
   refine zz d D ?_;refine R.rC ?_;rw [show qp n C l a b=false by simp [qp,e]];rfl
 ·have d:decide (n<=a)=false:=uu f
  refine zw d ?_;refine R.rC ?_;rw [show qp n C l a b=false by simp [qp,f]];rfl
abbrev IX(m:ru)(n:Int):PD:=.ak [H6 m.tl,m.o 0,m.o 1,m.o 2,m.o 3,m.o 4,.list 9 (m.qs.map AZ),m.o 5,m.o 6,m.o 7,iC m.fs,I n,ints m.g.cost,lls m.g.edges,m.o 8,m.o 9]
def OO:Plan:=.mk 0 0 [] [] [] 0 0 []
def OQ(m:ru)(a:Int):Bool:=if m.qs.length=0 then iF m.tl OO m.fs a else m.qs.all λq=>iF m.tl q.2 m.fs a
def ji(m:ru)(n a b:Int):Bool:=decide (m.qs.length<=4)&&qp n m.g.cost m.g.edges a b&&decide ((m.fs.length:Int)<=a)&&OQ m a
def up0:lT (.ak [I 0,I 0,.raw (.slice none 0 0),.raw (.slice none 0 0),.raw (.slice none 0 0),I 0,I 0,.raw (.slice none 0 0)]) (plan OO):=by
 simp only [OO,plan,N7]
 repeat' first|exact lT.same _|exact lT.nil _|refine lT.Ay ?_|refine lT.vA _ ?_|exact yc.nil|refine yc.cons ?_ ?_
def Cy(m:ru)(n a b:Int)(N:a<=1000):aG aa 17 [.pd (IX m n),.pd (I a),.pd (I b)] [B (ji m n a b)]:=by
 refine aG.mk Tryz.func17 λw G=>?_
 by_cases O:m.qs.length<=4
 ·have E:decide ((m.qs.length:Int)>4)=false:=qz
  refine zw E ?_;refine R.kC (Cw n m.g.cost m.g.edges a b) rfl rfl zg ?_
  cases L:qp n m.g.cost m.g.edges a b
  ·refine ar ?_
   refine R.rC ?_;rw [show ji m n a b=false by simp [ji,L]];rfl
  by_cases J:(m.fs.length:Int)<=a
  ·have D:decide ((m.fs.length:Int)>a)=false:=qz
   by_cases C:m.qs.length=0
   ·have A:((m.qs.length:Int)==0)=true:=by simp [C]
    refine zz D A ?_;refine R.YM 36 qn rfl up0 ?_;simp only [go_sem];refine R.kC (OM m.tl OO m.fs a N) rfl rfl zj ?_;refine ar ?_;refine R.rC ?_;rw [show ji m n a b=iF m.tl OO m.fs a by simp [ji,OQ,L,J,C]];rfl
   ·have A:((m.qs.length:Int)==0)=false:=eh.2 qk
    refine zz D A ?_;refine R.fU (λ(k:Nat) s=>St.lp [1,3] [(7,.pd (I k))] [3] [] [] [] s) (λ(k:Nat)=>k<=m.qs.length/\((m.qs.take k).all λq=>iF m.tl q.2 m.fs a)=true) (λ(k:Nat)=>m.qs.length-k) (0) (⟨qk,qr⟩) ?_;rintro k ⟨Q,H⟩
    by_cases t:k<m.qs.length
    ·have z:decide ((k:Int)<(m.qs.length:Int))=true:=qz
     obtain⟨x,u⟩:∃x,m.qs[k]=x:=⟨_,rfl⟩;obtain⟨P,p⟩:=x
     have e:iF m.tl p m.fs a=false->ji m n a b=false:=λh=>by
      have:(m.qs.all λq=>iF m.tl q.2 m.fs a)=false:=fm.2 ⟨m.qs[k],am t,by simp [u,h]⟩;simp [ji,OQ,C,this]
     have d:iF m.tl p m.fs a=true->((m.qs.take (k+1)).all λq=>iF m.tl q.2 m.fs a)=true:=λh=>by
      rw [bh t,gn,H];simp [u,h]
     obtain⟨r,o,l,j,i,g,f,K⟩:=p;have v:(m.qs.map AZ).getD k (.ak [])=AZ (P,Plan.mk r o l j i g f K):=by simp [t,u]
     refine zw z ?_;refine R.dA 13 80 mixed qv ?_;simp only [go_sem,v];repeat refine⟨qk,?_⟩
     refine⟨by simp [plan,PD.cells],?_⟩;refine R.kC (OM m.tl (Plan.mk r o l j i g f K) m.fs a N) rfl rfl zj ?_
     cases M:iF m.tl (Plan.mk r o l j i g f K) m.fs a
     ·refine ar ?_
      refine R.rC ?_;rw [e M];rfl
     ·apply aj;simp only [go_sem,↓reduceIte,wrapN (k:=k) qk]
      refine R.fE (k+1) ⟨qk,d M⟩
    ·have z:decide ((k:Int)<(m.qs.length:Int))=false:=qz
     rw [bi qk]at H;refine zw z ?_;refine R.rC ?_;rw [show ji m n a b=true by simp only [ji,OQ,L,ae C,H];simp [O,J]];rfl
  ·have D:decide ((m.fs.length:Int)>a)=true:=qz
   refine zw D ?_;refine R.rC ?_;rw [show ji m n a b=false by simp [ji,J]];rfl
 ·have E:decide ((m.qs.length:Int)>4)=true:=qz
  refine zw E ?_;refine R.rC ?_;rw [show ji m n a b=false by simp [ji,O]];rfl
def NF(m:ru)(n:Int):aG aa 7 [.pd (IX m n),.pd (.raw (.slice none 0 0))] [B (ji m n 12 30)]:=by
 refine aG.mk Tryz.func7 λw G=>?_;refine ac ?_;refine R.kC (Cy m n 12 30 qk) rfl rfl zg ?_
 cases ji m n 12 30
 ·refine ar ?_
  refine R.rC ?_;rfl
 ·refine ar ?_
  refine R.rC ?_;rfl
def WG(m:ru)(r:Int):Int:=if m.qs.length=0 then 0 else Int.tmod r m.qs.length
def K0(m:ru)(n r:Int)(a:0<=r)(H:r<256):aG aa 6 [.pd (IX m n),.pd (.raw (.int .u8 r))] [I (WG m r),B (decide (m.qs.length≠0))]:=by
 refine aG.mk Tryz.func6 λw G=>?_
 by_cases c:m.qs.length=0
 ·have d:((m.qs.length:Int)==0)=true:=by simp [c]
  refine zw d ?_;refine R.rC ?_;simp only [WG,c];rfl
 ·have d:((m.qs.length:Int)==0)=false:=eh.2 qk
  have h:IntKind.i64.wrap r=r:=wrap64 qk qk;refine zz d h ?_;refine⟨qk,?_⟩;refine R.rC ?_;rw [show WG m r=Int.tmod r m.qs.length from ae c,show decide (m.qs.length≠0)=true by simpa using c];rfl
abbrev tC:PD:=.raw (.slice none 0 0)
abbrev xA:PD:=.ak [S ⟨#[97]⟩,I 1,tC,I 0,I 0,S .empty]
abbrev xT:PD:=.ak [S ⟨#[116]⟩,.list 6 [xA],.list 1 [I 0]]
abbrev xP:List PD:=[I 1,I 0,tC,tC,tC,I 0,I 0,.list 6 [xA]]
abbrev xF(e:Int)(s:ByteArray):PD:=.ak [I 0,I e,I 0,.list 3 [.ak [I 1,I 0,S s]],I 0,tC]
abbrev xI:PD:=.ak [.list 3 [xT],tC,tC,tC,tC,tC,.list 9 [.ak (S ⟨#[113]⟩::xP)],tC,tC,tC,.list 6 [xF 0 ⟨#[120]⟩,xF 1 ⟨#[121]⟩,xF 2 ⟨#[122]⟩],I 3,.list 1 [I 0,I 0,I 0],.list 1 [.list 1 [I 0,I 1]],tC,tC]
def IY(s:ByteArray):aG aa 32 [.pd (S s)] [.ak [I 1,I 0,S s]]:=by
 refine aG.mk Tryz.func32 λw G=>?_
 (refine dD [] 120 _ _ ?_;simp only [go_sem,Go.au.eF,jr,↓reduceIte,Tryz.results32,Go.au.eF])
def Cz:bg aa 15 [] [xI]:=by
 refine bg.mk Tryz.func15 λw G=>?_;refine ac ?_;refine R.Ef (d:=5) (n:=3) 1005 rfl rfl rfl rfl qn rfl rfl sl35 Wu rfl rfl qk wv ?_;refine R.dI 1005 rfl rfl ?_;simp only [go_sem];refine ac ?_;refine R.kC (IY ⟨#[120]⟩) rfl rfl zd ?_;refine ac ?_;refine R.kC (IY ⟨#[121]⟩) rfl rfl zd ?_;refine ac ?_;refine R.kC (IY ⟨#[122]⟩) rfl rfl zd ?_
 (refine Yn [] 120 _ _ ?_;simp only [go_sem,Go.au.eF,jr,↓reduceIte,Tryz.results15,Go.au.eF,av])
def hxA:Attr:=⟨⟨#[97]⟩,1,[],⟨0,0,.empty⟩⟩
def hxP:Plan:=.mk 1 0 [] [] [] 0 0 [hxA]
def hxF(e:Int)(s:ByteArray):dZ:=⟨0,e,0,[⟨1,0,s⟩],0,[]⟩
def nM:ru:=⟨[⟨⟨#[116]⟩,[hxA],[0]⟩],[(⟨#[113]⟩,hxP)],[hxF 0 ⟨#[120]⟩,hxF 1 ⟨#[121]⟩,hxF 2 ⟨#[122]⟩],⟨3,[0,0,0],[[0,1]]⟩,λ_=>tC⟩
def upX:lT xI (.ak (oT nM)):=by
 simp only [oT,nM,hxP,hxA,hxF,ap,ax]
 repeat' first|exact lT.same _|exact lT.nil _|refine lT.Ay ?_|refine lT.vA _ ?_|exact yc.nil|refine yc.cons ?_ ?_
end Go.Proofs.Z
