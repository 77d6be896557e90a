/- A part of the proof. -/
import Derived.Test.YtgeljjfmcmbejaaGreatDoorPT9
import Derived.Test.YtgeljjfmcmbejaaGreatDoorPS1
set_option linter.all false
set_option linter.deprecated false
open ByteArray renaming empty→cS
open Go.Call renaming operands→di
open Go.Lib renaming compact_length_le→iu,compact→cR,keeps→fY
open Go.Op renaming operands→bR
open Go.Proofs.Tryz renaming prog→aa,results257→rt,underlying3→cM,underlying9→gL
open Go.Value.bool renaming injEq→cL
open Int renaming toNat_zero→cW,eq_ofNat_of_zero_le→m9,toNat_natCast→AH,reduceEq→dT
open List renaming cons_append→bE,nil_append→cg,length→aR,getElem_mapIdx→pT,range→aw,length_cons→an,getElem_toArray→Bp,toList_toArray→ly
open Option renaming map→bB,isSome_none→AT,isSome_some→AS
set_option maxRecDepth 100000
set_option maxHeartbeats 4000000
namespace Go.Proofs
open Go.Shelf
def zK{P:Program}{f:FuncId}{B:Func}(h:((P.funcs[f]?).map λx=>{B with name:=x.name})=P.funcs[f]?)(H:(P.funcs[f]?).map (λx=>x.name== "runtime.NumGoroutine")=some false):Bears P f B:=by
 cases a:P.funcs[f]? with
 |none=>rw [a]at H;cases H
 |some x=>
  rw [a]at h H;exact⟨x.name,gm H,by rw [a,<-h];rfl⟩
def Tryz.sortW_ren:Go.Shelf.Ren:=⟨λ|6=>298|15=>129|14=>356|28=>222|29=>223|20=>384|21=>385|22=>386|23=>387|24=>388|25=>389|26=>390|27=>391|46=>408|47=>316|48=>317|49=>409|50=>410|57=>421|n=>n,λ|22=>72|24=>164|25=>370|3=>3|39=>238|0=>0|53=>301|55=>129|4=>4|46=>294|45=>293|50=>46|5=>5|9=>9|66=>374|70=>378|76=>409|77=>410|n=>n,λ|n=>n⟩
def Tryz.sortW:Go.Proofs.SlLaysF0.n6 aa Tryz.sortW_ren:=by constructor<;>first|kernel_rfl|(intro;kernel_rfl)|exact zK qq qq|(constructor<;>first|kernel_rfl|(intro;kernel_rfl)|exact zK qq qq)
def Tryz.sortA_ren:Go.Shelf.Ren:=⟨λ|6=>109|15=>129|14=>180|28=>222|29=>223|20=>282|21=>283|22=>284|23=>285|24=>286|25=>287|26=>288|27=>289|46=>348|47=>316|48=>317|49=>349|50=>350|57=>379|n=>n,λ|22=>68|24=>74|25=>147|3=>3|39=>238|0=>0|53=>301|55=>129|4=>4|46=>294|45=>293|50=>46|5=>5|9=>9|66=>374|70=>378|76=>409|77=>410|n=>n,λ|n=>n⟩
def Tryz.sortA:Go.Proofs.SlLaysF0.n6 aa Tryz.sortA_ren:=by constructor<;>first|kernel_rfl|(intro;kernel_rfl)|exact zK qq qq|(constructor<;>first|kernel_rfl|(intro;kernel_rfl)|exact zK qq qq)
end Go.Proofs
namespace Go.Proofs.Z
open Go.au
variable {all:Array Oper}
def s7:aF aa 298:=λ_ _=>qq
def Order.swo{α:Type}{c:α->α->Int}(h:Order c):Go.Sort.SWO (ltOf c) where
 irrefl x:=by have:=(h.eq x x).2 rfl;simp [ltOf,this]
 trans x y z h1 h2:=by simp [ltOf]at*;exact h.trans x y z h1 h2
 ntrans x y z h1 h2:=by
  simp [ltOf]at*
  by_cases hc:c x z<0
  ·exfalso
   by_cases h0:c x y=0
   ·have:=(h.eq x y).1 h0;subst this;omega
   ·have:c y x<0:=(h.flip y x).2 qk
    have:=h.trans y x z this hc;omega
  ·omega
def N8(w:W):∀(l o:List W),keepW o (l++[w])=if(keepW o l).any (iU · w)then keepW o l else keepW o l++[w]
 | [],o=>by simp [keepW]
 |x::l,o=>by simp only [bE,keepW];exact N8 w l _
def Zu(l:List W)(w:W):gG (l++[w])=if TP (nO w)then gG l++[nO w]else gG l:=by
 unfold gG;rw [bl,eV]
 by_cases h:TP (nO w)=true<;>simp [h]
def Mi{l g L:List W}(H:g.Perm (gG l))(s:g.Pairwise λx y=>¬LK y x<0)(h:L.Perm (keepW [] g))(j:L.Pairwise λx y=>¬xM y x<0):L=dH l:=by
 obtain⟨n,o⟩:=EZ g [] [] (λx m=>zH (H.mem_iff.1 (uu m))) (uu s) qr .nil;have k:L.Nodup:=h.nodup_iff.2 n;refine Dk ?_ (λx=>?_)
 ·refine(j.and k).imp ?_
  rintro a b ⟨f,d⟩;have q:xM a b≠0:=λe=>d ((jB.eq a b).1 e);have p:¬0<xM a b:=λe=>f ((jB.flip b a).2 e);omega
 ·rw [h.mem_iff,o x]
  simp only [cg];constructor
  ·rintro⟨f,d⟩;exact⟨H.mem_iff.1 f,λy i=>d y (H.mem_iff.2 i)⟩
  ·rintro⟨f,d⟩;exact⟨H.mem_iff.2 f,λy i=>d y (H.mem_iff.1 i)⟩
def okW(w:W):Prop:=w.pos.length<=1000000000/\w.neg.length<=1000000000
def Ea(l:List W):Prop:=l.length<=1000000000000/\∀w∈l,okW w
def xR(l:List Int):(mD l).length<=l.length:=by
 rw [<-P9];have:=iu (l.mergeSort λx y=>decide (x<=y));rw [gA]at this;exact this
def J0{w:W}(h:okW w):okW (nO w):=by
 have a:=xR w.pos;have H:=xR w.neg;unfold okW at*;simp only [nO];omega
def Ia{l:List W}(h:Ea l){x:W}(H:x∈gG l):okW x:=by
 simp only [gG,cG,aq]at H;obtain⟨⟨y,a,rfl⟩,_⟩:=H;exact J0 (h.2 y a)
def Ib(l:List W):(gG l).length<=l.length:=by
 unfold gG;exact bz (gC _ _) qr
def Ic:∀(l o:List W),(keepW o l).length<=o.length+l.length
 | [],o=>by simp [keepW]
 |w::l,o=>by
  simp only [keepW];refine bz (Ic l _) ?_
  split<;>simp<;>omega
def _root_.Go.au.R.iy{C:Cx}{s:St}{l:List Oper}{k:List KI}{o:Oper}{x y:Operand}{t e:TypeId}{i:Nat}{r:Row}{d:PD}(n B:Nat)(p:o.op= .call ⟨.builtin .append,#[x,y],#[t,t]⟩)(v:o.guard=none)(D:dN s o)(f:aO s x= .own i)(m:s.row i=some r)(a:C.fP i=none)
  (b:aO s y= .pd (.list r.sz [d]))(A:eu C.P t=some e)(H:r.e=e)(z:aP C.P e=r.sz)(J:r.sz≠0)(h:(bG C.P e).map aR=some r.sz)(g:d.width=r.sz)(G:iQ C.P e=B)(q:r.ds.length+1<=n)(E:n*B<=140737488355328)(hm:n<=9223372036854775807)
  (next:R C (.ops all l::k) ((s.newRow i ⟨e,r.sz,r.ds++[d]⟩).put o.dst (.own i))):R C (.ops all (o::l)::k) s:=by
 refine R.append p v (ah D) f m a (es:=[d]) (by rw [b];rfl) A H z J h rfl (λj u=>?_) ?_ ?_ next
 ·have:j=0:=uu u
  subst this;exact g
 ·rw [G];exact bz (c9 B (uu q)) E
 ·simp [maxLen];omega
def Fg(l:List W)(i:Ea l):bg aa 188 [.pd (ways l)] [ways (dH l)]:=by
 have A:=i.1;refine bg.mk Tryz.func188 λw G=>?_;refine ac ?_;refine R.mV 3 3 164 2 qn rfl rfl ?_;simp only [go_sem];refine R.fU (λ(k:Nat) s=>St.lp [0,2,6,7,9,10,11,12,34,35,37,38,39,40,41,42,43,44,45,46,47,48,49,50,51,52,53,55] [(13,.pd (I k)),(3,.own 3)] [6,9] [] [] [(3,⟨164,2,(gG (l.take k)).map way⟩)] s) (λ(k:Nat)=>k<=l.length) (λ(k:Nat)=>l.length-k) (0) qk ?_;rintro k D;refine ac ?_;refine⟨λh=>?_,λh=>?_⟩
 ·have H:k<l.length:=uu h
  have g:=i.2 l[k] (am H);refine qf H ?_;refine⟨qk,?_⟩;refine R.dA 5 80 mixed qv ?_;simp only [go_sem];refine RY.kW (s6 l[k].pos (by have:=g.1;omega)) rfl rfl zd ?_;refine z6 ?_;refine ac ?_;refine R.kW (s6 l[k].neg (by have:=g.2;omega)) rfl rfl zd ?_;refine ac ?_;have f:aG aa 72 [.pd (ints (mD l[k].pos)),.fn (decides I (λx=>(mD l[k].neg).contains x) (mD l[k].pos))] [B ((mD l[k].pos).any λx=>(mD l[k].neg).contains x)]:=dW _ _;refine R.kC (f) rfl rfl (zc (.cons (Co.oq (way (nO l[k])) rfl CF (by rintro E r ⟨x,_,rfl,rfl⟩;exact Hb (nO l[k]) x (qm _) (by have:=xR l[k].neg;have:=g.2;simp only [nO];omega))) (.nil))) ?_;refine ac ?_;have d:TP (nO l[k])=!((mD l[k].pos).any λx=>(mD l[k].neg).contains x):=rfl;have hsn:=Zu (l.take k) l[k];rw [<-bh H,d]at hsn;have o:(gG (l.take k)).length<=k:=bz (Ib _) qz;refine⟨λa=>?_,λa=>?_⟩
  ·rw [af (by rw [a];rfl)]at hsn
   refine ac ?_;refine R.iy 1000000000000 48 rfl rfl qn rfl rfl rfl rfl LQ rfl zI qr (congrArg (bB aR) Fa) rfl E8 qz qu qu ?_;apply ev8;simp only [go_sem,wrapN (k:=k) qk];refine R.fE (k+1) qk (l:=kh)
  ·rw [ae (by rw [a];simp)]at hsn
   apply ev8;simp only [go_sem,wrapN (k:=k) qk];refine R.fE (k+1) qk (l:=xj)
 ·have q:¬k<l.length:=uu h
  have e:l.take k=l:=bi qk;refine z5 e ?_;refine R.fA 6 SZF rfl (λ_ h=>h) rfl ?_;simp only [go_sem,St.fA,SV.fA];have o:=Ib l
  refine R.Zq Tryz.sortW way 2 LK (gG l) rfl s7 rfl rfl qn rfl rfl qu Zk Zj zI (λ_=>rfl) (λ_=>rfl) Zb.swo qk
   (.clo 299 [SZF] CD (by
    rintro E r ⟨x,u,y,t,rfl,rfl⟩;have J:=Ia i u;have a:=Ia i t;exact GW x y (by unfold okW at J;omega) (by unfold okW at a;omega))) ?_
  intro L p z;have C:L.length=(gG l).length:=p.length_eq;refine ac ?_;refine R.mV 7 7 164 2 qn rfl rfl ?_;simp only [go_sem];refine ac ?_;refine R.fU (λ(k:Nat) s=>St.lp [0,2,3,5,6,11,12,13,14,15,16,17,18,19,20,21,22,23,24,25,26,27,28,29,30,31,32,33,34,35,37,38,53,55] [(39,.pd (I k)),(7,.own 7)] [5,6] [] [3] [(7,⟨164,2,(keepW [] (L.take k)).map way⟩)] s) (λ(k:Nat)=>k<=L.length) (λ(k:Nat)=>L.length-k) (0) qk ?_;rintro k D;refine ac ?_;refine⟨λh=>?_,λh=>?_⟩
  ·have H:k<L.length:=uu h
   have m:L[k]∈gG l:=p.mem_iff.1 (am H);have g:=Ia i m;have b:=Ic (L.take k) [];have hsn:=N8 L[k] (L.take k) [];rw [<-bh H]at hsn;refine qe H ?_;have f:aG aa 121 [.pd (ways (keepW [] (L.take k))),.fn (decides way (iU · L[k]) (keepW [] (L.take k)))] [B ((keepW [] (L.take k)).any (iU · L[k]))]:=wK _ _;refine R.kC (f) rfl rfl (.cons (.own 7 ⟨164,2,(keepW [] (L.take k)).map way⟩ rfl) (.cons (Co.oq (way L[k]) rfl CG (by rintro E r ⟨x,_,rfl,rfl⟩;exact M7 x L[k] (zH m) (by unfold okW at g;omega))) (.nil))) ?_;refine ac ?_;refine⟨λa=>?_,λa=>?_⟩
   ·rw [ae (uu a)]at hsn
    refine ac ?_;refine R.iy 1000000000000 48 rfl rfl qn rfl rfl rfl rfl LQ rfl zI qr (congrArg (bB aR) Fa) rfl E8 (by simp at b⊢;omega) qu qu ?_;apply ev8;simp only [go_sem,wrapN (k:=k) qk];refine R.fE (k+1) qk (l:=kh)
   ·rw [af (uu a)]at hsn
    apply ev8;simp only [go_sem,wrapN (k:=k) qk];refine R.fE (k+1) qk (l:=xj)
  ·have q:¬k<L.length:=uu h
   have e:L.take k=L:=bi qk;have b:=Ic L [];refine z5 e ?_
   refine R.Zq Tryz.sortW way 2 xM (keepW [] L) rfl s7 rfl rfl qn rfl rfl qu Zk Zj zI (λ_=>rfl) (λ_=>rfl) jB.swo (by simp at b;omega)
    (.func 301 CC (by
     rintro E r ⟨x,u,y,t,rfl,rfl⟩;exact KN x y)) ?_
   intro v n j;refine ac ?_;refine R.dI 7 rfl rfl ?_;simp only [go_sem];refine R.rW ?_;rw [<-Mi p z n j];rfl
def Ku(l:List ByteArray)(p:ByteArray->Bool):aG aa 328 [.pd (.list 1 (l.map S)),.fn (decides S p l)] [I (jC p l)]:=by
 refine aG.mk Tryz.func328 λw G=>?_;refine R.bound 0 (sz:=1) (ds:=l.map S) rfl λhl=>?_;have hl:l.length<=9223372036854775807:=xe;refine ac ?_;refine R.fam (λk:Nat=>⟨19,[(0,.pd (.list 1 (l.map S))),(1,.fn (decides S p l)),(7,.pd (I l.length)),(8,.pd (I k))],[],[],[],[]⟩) (λk=>k<=l.length/\(l.take k).any p=false) (λk=>l.length-k) 0 ⟨qk,qr⟩ j8 ?_;rintro k ⟨b,H⟩
 (refine aJ 60 _ _ ?_;simp only [go_sem,I])
 refine⟨λh=>?_,λh=>?_⟩
 ·have t:k<l.length:=uu h
  refine qf t ?_;refine⟨qk,?_⟩;refine R.y rfl (ah xb) (.kN 11 _ _ _ _ (B (p l[k])) rfl rfl rfl ⟨l[k],am t,rfl,rfl⟩) ?_
  (refine aJ 60 _ _ ?_;simp only [go_sem,B])
  refine⟨λa=>?_,λa=>?_⟩
  ·refine ac ?_
   refine R.dS (vc:=True) ?_ trivial;rw [mZ t H a];rfl
  ·(refine aJ 60 _ _ ?_;simp only [go_sem,wrapN (k:=k) qk])
   refine R.nZ (k+1) ⟨qk,?_⟩ va xb;rw [bh t,fk,H];simpa using a
 ·have e:¬k<l.length:=uu h
  refine ac ?_;refine R.dS (vc:=True) ?_ trivial;rw [bi qk]at H;rw [ng H];rfl
def Fh(l:List ByteArray)(p:ByteArray->Bool):aG aa 249 [.pd (.list 1 (l.map S)),.fn (decides S p l)] [B (l.any p)]:=by
 refine aG.mk Tryz.func249 λw G=>?_;refine ac ?_;refine R.lY (Ku l p) rfl rfl (zc (.cons (.fn _) .nil)) qr xb ?_
 (refine aJ 40 _ _ ?_;simp only [go_sem,I])
 refine R.dS (vc:=True) ?_ trivial;rw [<-xO];rfl
def Kv(l:List dO)(p:dO->Bool):aG aa 253 [.pd (.list 3 (l.map D7)),.fn (decides D7 p l)] [I (jC p l)]:=by
 refine aG.mk Tryz.func253 λw G=>?_;refine R.bound 0 (sz:=3) (ds:=l.map D7) rfl λhl=>?_;have hl:l.length<=9223372036854775807:=xe;refine ac ?_;refine R.fam (λk:Nat=>⟨19,[(0,.pd (.list 3 (l.map D7))),(1,.fn (decides D7 p l)),(7,.pd (I l.length)),(8,.pd (I k))],[],[],[],[]⟩) (λk=>k<=l.length/\(l.take k).any p=false) (λk=>l.length-k) 0 ⟨qk,qr⟩ j8 ?_;rintro k ⟨b,H⟩
 (refine aJ 60 _ _ ?_;simp only [go_sem,I])
 refine⟨λh=>?_,λh=>?_⟩
 ·have t:k<l.length:=uu h
  refine qf t ?_;refine⟨qk,?_⟩;refine R.y rfl (ah xb) (.kN 11 _ _ _ _ (B (p l[k])) rfl rfl rfl ⟨l[k],am t,rfl,rfl⟩) ?_
  (refine aJ 60 _ _ ?_;simp only [go_sem,B])
  refine⟨λa=>?_,λa=>?_⟩
  ·refine ac ?_
   refine R.dS (vc:=True) ?_ trivial;rw [mZ t H a];rfl
  ·(refine aJ 60 _ _ ?_;simp only [go_sem,wrapN (k:=k) qk])
   refine R.nZ (k+1) ⟨qk,?_⟩ va xb;rw [bh t,fk,H];simpa using a
 ·have e:¬k<l.length:=uu h
  refine ac ?_;refine R.dS (vc:=True) ?_ trivial;rw [bi qk]at H;rw [ng H];rfl
def qV(l:List Attr)(p:Attr->Bool):aG aa 255 [.pd (.list 6 (l.map attr)),.fn (decides attr p l)] [I (jC p l)]:=by
 refine aG.mk Tryz.func255 λw G=>?_;refine R.bound 0 (sz:=6) (ds:=l.map attr) rfl λhl=>?_;have hl:l.length<=9223372036854775807:=xe;refine ac ?_;refine R.fam (λk:Nat=>⟨19,[(0,.pd (.list 6 (l.map attr))),(1,.fn (decides attr p l)),(7,.pd (I l.length)),(8,.pd (I k))],[],[],[],[]⟩) (λk=>k<=l.length/\(l.take k).any p=false) (λk=>l.length-k) 0 ⟨qk,qr⟩ j8 ?_;rintro k ⟨b,H⟩
 (refine aJ 60 _ _ ?_;simp only [go_sem,I])
 refine⟨λh=>?_,λh=>?_⟩
 ·have t:k<l.length:=uu h
  (refine aJ 60 _ _ ?_;simp only [go_sem,I,getD_map,t])
  refine⟨qk,?_⟩;refine R.y rfl (ah xb) (.kN 11 _ _ _ _ (B (p l[k])) rfl rfl rfl ⟨l[k],am t,rfl,rfl⟩) ?_
  (refine aJ 60 _ _ ?_;simp only [go_sem,B])
  refine⟨λa=>?_,λa=>?_⟩
  ·refine ac ?_
   refine R.dS (vc:=True) ?_ trivial;rw [mZ t H a];rfl
  ·(refine aJ 60 _ _ ?_;simp only [go_sem,wrapN (k:=k) qk])
   refine R.nZ (k+1) ⟨qk,?_⟩ va xb;rw [bh t,fk,H];simpa using a
 ·have e:¬k<l.length:=uu h
  refine ac ?_;refine R.dS (vc:=True) ?_ trivial;rw [bi qk]at H;rw [ng H];rfl
def CN:aF aa 250:=λ_ _=>qq
def CR:aF aa 254:=λ_ _=>qq
def CT:aF aa 330:=λ_ _=>qq
def Da:aF aa 331:=λ_ _=>qq
def Db:aF aa 256:=λ_ _=>qq
def Dd:aF aa 258:=λ_ _=>qq
def De(s:ByteArray)(h:s.size<=9223372036854775807):aG aa 250 [.pd (S s)] [B (!pz s)]:=by
 refine aG.mk Tryz.func250 λw G=>?_
 (refine dD [(4,.of (Yp s h))] 120 _ _ ?_;simp only [go_sem,Go.au.eF,jr,↓reduceIte,Tryz.results250])
def eqS(a b:ByteArray):Bool:=a.toList==b.toList
def J1(t:dO)(n:ByteArray):aG aa 254 [.pd (D7 t),.ref (S n) 0] [B (eqS t.name n)]:=by
 refine aG.mk Tryz.func254 λw G=>?_
 (refine dD [] 120 _ _ ?_;simp only [go_sem,Go.au.eF,jr,↓reduceIte,b9,PD.raw.injEq,cL,Tryz.results254])
 simp [eqS]
def find_ok(l:List dO)(n:ByteArray):aG aa 153 [.pd (schema l),.pd (S n)] [I (jC (λt=>eqS t.name n) l)]:=by
 refine aG.mk Tryz.func153 λw G=>?_;refine ac ?_;refine R.kC (Kv l (λt=>eqS t.name n)) rfl rfl (zc (.cons (Co.oq (S n) rfl CR (by rintro e r ⟨x,_,rfl,rfl⟩;exact J1 x n)) (.nil))) ?_;refine ac ?_;refine R.rC ?_;rfl
def Zv(t:Attr)(n:ByteArray):aG aa 256 [.pd (attr t),.ref (S n) 0] [B (eqS t.name n)]:=by
 refine aG.mk Tryz.func256 λw G=>?_
 (refine dD [] 120 _ _ ?_;simp only [go_sem,Go.au.eF,jr,↓reduceIte,b9,PD.raw.injEq,cL,Tryz.results256])
 simp [eqS]
def mF(l:List Attr)(n:ByteArray):Int:=jC (λt=>eqS t.name n) l
def Q7(l:List Attr)(n:ByteArray):aG aa 154 [.pd (attrs l),.pd (S n)] [I (mF l n)]:=by
 refine aG.mk Tryz.func154 λw G=>?_;refine ac ?_;refine R.kC (qV l (λt=>eqS t.name n)) rfl rfl (zc (.cons (Co.oq (S n) rfl Db (by rintro e r ⟨x,_,rfl,rfl⟩;exact Zv x n)) (.nil))) ?_;refine ac ?_;refine R.rC ?_;rfl
def Xu(t:Attr)(n:ByteArray):aG aa 330 [.pd (attr t),.ref (S n) 0] [B (eqS t.name n)]:=by
 refine aG.mk Tryz.func330 λw G=>?_
 (refine dD [] 120 _ _ ?_;simp only [go_sem,Go.au.eF,jr,↓reduceIte,b9,PD.raw.injEq,cL,Tryz.results330])
 simp [eqS]
def Dg(l:List ByteArray)(n:ByteArray):aG aa 370 [.pd (strs l),.pd (S n)] [I (jC (λt=>eqS n t) l)]:=by
 refine aG.mk Tryz.func370 λw G=>?_;refine R.bound 0 (sz:=1) (ds:=l.map S) rfl λhl=>?_;have hl:l.length<=9223372036854775807:=xe;refine ac ?_;refine R.fU (λ(k:Nat) s=>St.lp [0,1,6,7] [(8,.pd (I k))] [] [] [] [] s) (λ(k:Nat)=>k<=l.length/\(l.take k).any (λt=>eqS n t)=false) (λ(k:Nat)=>l.length-k) (0) (⟨qk,qr⟩) ?_;rintro k ⟨d,H⟩;refine ac ?_;refine⟨λh=>?_,λh=>?_⟩
 ·have a:k<l.length:=uu h
  refine qf a ?_;refine⟨qk,?_⟩;refine⟨λb=>?_,λb=>?_⟩
  ·refine ac ?_
   refine R.rC ?_;rw [mZ a H b];rfl
  ·apply ev8;simp only [go_sem,wrapN (k:=k) qk]
   refine R.fE (k+1) ⟨qk,by rw [bh a,fk,H];simpa [eqS]using b⟩
 ·have e:¬k<l.length:=uu h
  rw [bi qk]at H;refine ac ?_;refine R.rC ?_;rw [ng H];rfl
def Vg(l:List ByteArray)(n:ByteArray):aG aa 332 [.pd (strs l),.pd (S n)] [B (l.any λt=>eqS n t)]:=by
 refine aG.mk Tryz.func332 λw G=>?_;refine ac ?_;refine R.kC (Dg l n) rfl rfl ze ?_;refine ac ?_;refine R.rC ?_;rw [<-xO];rfl
def Xv(t:Attr)(n:ByteArray):aG aa 331 [.pd (attr t),.ref (S n) 0] [B (t.was.any λt=>eqS n t)]:=by
 refine aG.mk Tryz.func331 λw G=>?_
 (refine dD [(7,.of (Vg t.was n))] 120 _ _ ?_;simp only [go_sem,Go.au.eF,jr,↓reduceIte,Tryz.results331])
def Fj(l:List Attr)(n:ByteArray):Int:=if 0<=mF l n then mF l n else jC (λt=>t.was.any λt=>eqS n t) l
def Zw(t:dO)(n:ByteArray):aG aa 260 [.pd (D7 t),.pd (S n)] [I (Fj t.attrs n)]:=by
 refine aG.mk Tryz.func260 λw G=>?_;refine ac ?_;refine R.kC (qV t.attrs (λt=>eqS t.name n)) rfl rfl (zc (.cons (Co.oq (S n) rfl CT (by rintro e r ⟨x,_,rfl,rfl⟩;exact Xu x n)) (.nil))) ?_;refine ac ?_;refine⟨λh=>?_,λh=>?_⟩
 ·have h:0<=mF t.attrs n:=by simpa [mF]using h
  refine ac ?_;refine R.rC ?_;rw [Fj,af h];rfl
 ·have h:¬0<=mF t.attrs n:=by simpa [mF]using h
  refine ac ?_;refine R.kC (qV t.attrs (λt=>t.was.any λt=>eqS n t)) rfl rfl (zc (.cons (Co.oq (S n) rfl Da (by rintro e r ⟨x,_,rfl,rfl⟩;exact Xv x n)) (.nil))) ?_;refine ac ?_;refine R.rC ?_;rw [Fj,ae h];rfl
def wM(a b:Attr):Bool:=eqS a.name b.name&&a.kind==b.kind
def C3(a b:Attr):aG aa 258 [.pd (attr a),.pd (attr b)] [B (wM a b)]:=by
 refine aG.mk Tryz.func258 λw G=>?_
 (refine dD [] 120 _ _ ?_;simp only [go_sem,Go.au.eF,jr,↓reduceIte,b9,PD.raw.injEq,cL,Tryz.results258])
 simp only [wM,eqS]
 cases(a.name.toList==b.name.toList)<;>simp
def oz(a b:List Attr):Bool:=decide (a.length=b.length)&&(a.zip b).all λp=>wM p.1 p.2
def Vh(a b:List Attr):aG aa 257 [.pd (attrs a),.pd (attrs b),.fn (λes r=>∃x y,es=[attr x,attr y]/\r=B (wM x y))] [B (oz a b)]:=by
 refine aG.mk Tryz.func257 λw G=>?_;refine R.bound 0 (sz:=6) (ds:=a.map attr) rfl λhl=>?_;have hl:a.length<=9223372036854775807:=xe;refine ai ?_;refine⟨λh=>?_,λh=>?_⟩
 ·have h:a.length≠b.length:=j4
  (refine dD [] 120 _ _ ?_;simp only [go_sem,Go.au.eF,jr,↓reduceIte,b9,PD.raw.injEq,cL,rt])
  simp [oz,h]
 have n:a.length=b.length:=j4;refine ai ?_;refine R.fU (λ(k:Nat) s=>St.lp [0,1,2,10,11,12,13,14,15,16] [(17,.pd (I k))] [] [] [] [] s) (λ(k:Nat)=>k<=a.length/\(a.zip b).all (λp=>wM p.1 p.2)=((a.drop k).zip (b.drop k)).all λp=>wM p.1 p.2) (λ(k:Nat)=>a.length-k) (0) (⟨qk,qr⟩) ?_;rintro k ⟨f,H⟩;refine ai ?_;refine⟨λh=>?_,λh=>?_⟩
 ·have t:k<a.length:=uu h
  have A:k<b.length:=qk;rw [drop_cons t,drop_cons A,List.zip_cons_cons,List.all_cons]at H;apply aI;simp only [go_sem,getD_map,t,A];repeat refine⟨qk,?_⟩
  refine R.y rfl (ah qn) (.kN 26 _ _ _ _ (B (wM a[k] b[k])) rfl rfl rfl ⟨a[k],b[k],rfl,rfl⟩) ?_;refine ai ?_;refine⟨λd=>?_,λd=>?_⟩
  ·(refine dD [] 120 _ _ ?_;simp only [go_sem,Go.au.eF,jr,↓reduceIte,b9,PD.raw.injEq,cL,rt])
   have d:wM a[k] b[k]=false:=uu d;rw [oz,H,d];simp
  ·apply aI;simp only [go_sem,wrapN (k:=k) qk]
   have d:wM a[k] b[k]=true:=uu d;refine R.fE (k+1) ⟨qk,by rw [H,d];simp⟩
 ·have e:¬k<a.length:=uu h
  (refine dD [] 120 _ _ ?_;simp only [go_sem,Go.au.eF,jr,↓reduceIte,b9,PD.raw.injEq,cL,rt])
  rw [oz,H,cC (by omega:a.length<=k)];simp [n]
def Vj(a b:List Attr):aG aa 155 [.pd (attrs a),.pd (attrs b)] [B (oz a b)]:=by
 refine aG.mk Tryz.func155 λw G=>?_;refine ac ?_;refine R.kC (Vh a b) rfl rfl (zc (zc (.cons (Co.func 258 _ Dd (by rintro e r ⟨x,y,rfl,rfl⟩;exact C3 x y)) (.nil)))) ?_;refine ac ?_;refine R.rC ?_;rfl
def zeroV(v:V):Bool:=v.kind==0&&(v.n==0&&v.text==cS)
def JO(x:Side)(n:Int):Bool:=if x.var= -1 then decide (x.col=0)&&fB x.val else decide (x.var=0)&&decide (0<=x.col)&&decide (x.col<n)&&zeroV x.val
def Yr(x:Side)(n:Int):aG aa 334 [.pd (side x),.pd (I n)] [B (JO x n)]:=by
 refine aG.mk Tryz.func334 λw G=>?_
 (refine dD [(14,.of (pq x.val))] 120 _ _ ?_;simp only [go_sem,Go.au.eF,jr,↓reduceIte,b9,PD.raw.injEq,cL,Tryz.results334])
 repeat' (refine Vb (λ_=>?_) (λ_=>?_))
 all_goals(try simp_all [JO,zeroV])<;>(intros;omega)
def wO(t:AP)(n:Int):Bool:=decide (1<=t.op)&&decide (t.op<=4)&&JO t.left n&&JO t.right n&&(decide (t.left.var=0)||decide (t.right.var=0))
def J2(t:AP)(n:Int):aG aa 263 [.pd (tst t),.pd (I n)] [B (wO t n)]:=by
 refine aG.mk Tryz.func263 λw G=>?_
 (refine dD [(17,.of (Yr t.left n)),(23,.of (Yr t.right n))] 120 _ _ ?_;simp only [go_sem,Go.au.eF,jr,↓reduceIte,b9,PD.raw.injEq,cL,Tryz.results263])
 repeat' (refine Vb (λ_=>?_) (λ_=>?_))
 all_goals(try simp_all [wO])<;>first|rfl|(intros;omega)
def fC{α:Type}(l:List α):List Int->Option (List α)
 | []=>some []
 |c::C=>if h:0<=c/\c.toNat<l.length then(fC l C).map (l[c.toNat]'h.2 :: ·)else none
def Fp{α:Type}(l:List α)(c:Int):∀(cs:List Int) (O:List α),fC l cs=some O->fC l (cs++[c])=if h:0<=c/\c.toNat<l.length then some (O++[l[c.toNat]'h.2])else none
 | [],O,h=>by
  simp [fC]at h;subst h;simp only [cg,fC,Option.map_some]
 |x::cs,O,h=>by
  simp only [fC]at h
  split at h
  ·rename_i H
   cases e:fC l cs with
   |none=>simp [e]at h
   |some o=>
    simp [e]at h;subst h;simp only [bE,fC,dc H,Fp l c cs o e]
    split<;>simp
  ·simp at h
def Fq{α:Type}(l:List α)(c:Int)(h:¬(0<=c/\c.toNat<l.length)):∀(cs ds:List Int),fC l (cs++c::ds)=none
 | [],ds=>by simp [fC,h]
 |x::cs,ds=>by
  simp only [bE,fC,Fq l c h cs ds]
  split<;>simp
def yL{α:Type}(l:List α):∀(cs:List Int) (O:List α),fC l cs=some O->O.length=cs.length
 | [],O,h=>by simp [fC]at h;simp [<-h]
 |x::cs,O,h=>by
  simp only [fC]at h
  split at h
  ·cases e:fC l cs with
   |none=>simp [e]at h
   |some o=>simp [e]at h;subst h;simp [yL l cs o e]
  ·simp at h
abbrev NIL:PD:=.raw (.slice none 0 0)
def N9(r:Option (List Attr)):List PD:=match r with|some l=>[attrs l,B true]|none=>[NIL,B false]
def Mj(l:List Attr)(cols:List Int)(r:cols.length<=1000000000)(u:l.length<=9223372036854775807):bg aa 270 [.pd (attrs l),.pd (ints cols)] (N9 (fC l cols)):=by
 refine bg.mk Tryz.func270 λw G=>?_;refine ac ?_;refine R.mV 6 6 114 6 qn rfl rfl ?_;simp only [go_sem];refine ac ?_;refine R.fU (λ(k:Nat×List Attr) s=>St.lp [0,1,9,10,31] [(11,.pd (I k.1)),(6,.own 6)] [] [] [] [(6,⟨114,6,k.2.map attr⟩)] s) (λ(k:Nat×List Attr)=>k.1<=cols.length/\fC l (cols.take k.1)=some k.2) (λ(k:Nat×List Attr)=>cols.length-k.1) ((0,[])) (⟨ui,by simp [fC]⟩) ?_;rintro⟨k,o⟩ ⟨j,H⟩;have j:k<=cols.length:=j;have H:fC l (cols.take k)=some o:=H;have f:=yL _ _ _ H;rw [fb]at f;refine ac ?_;refine⟨λh=>?_,λh=>?_⟩
 ·have b:k<cols.length:=uu h
  have n:=Fp l cols[k] _ _ H;rw [<-bh b]at n;refine z7 b ?_;refine⟨λi=>?_,λi=>?_⟩
  ·have g:¬(0<=cols[k]/\cols[k].toNat<l.length):=by
    split at i<;>simp at* <;>omega
   have d:fC l cols=none:=by
    have e:=cK k cols;rw [drop_cons b]at e;rw [<-e];exact Fq l _ g _ _
   refine ac ?_;refine R.rW ?_;rw [d];rfl
  ·have a:0<=cols[k]/\cols[k].toNat<l.length:=by
    split at i<;>simp at* <;>omega
   have t:((cols[k].toNat:Nat):Int)=cols[k]:=iz a.1;rw [dc a]at n;generalize cols[k].toNat=q at t a n;rw [<-t];have m:=a.2;refine z7 m ?_;refine R.iy 1000000000 80 rfl rfl qn rfl rfl rfl rfl wF rfl wG qr (congrArg (bB aR) wH) rfl yB qz qu qu ?_;apply ev8;simp only [go_sem,wrapN (k:=k) qk];refine R.fE (k+1,o++[l[q]]) ⟨yz,n⟩ (hm:=vj) (l:=by(simp only [go_sem,bl]);all_goals(and_intros<;>first|rfl))
 ·have p:¬k<cols.length:=uu h
  rw [bi qk]at H;refine ac ?_;refine R.dI 6 rfl rfl ?_;simp only [go_sem];refine R.rW ?_;rw [H];rfl
def Plan.kind:Plan->Int| .mk k _ _ _ _ _ _ _=>k
def Plan.table:Plan->Int| .mk _ t _ _ _ _ _ _=>t
def Plan.kids:Plan->List Plan| .mk _ _ l _ _ _ _ _=>l
def Plan.tests:Plan->List AP| .mk _ _ _ l _ _ _ _=>l
def Plan.cols:Plan->List Int| .mk _ _ _ _ l _ _ _=>l
def Plan.col:Plan->Int| .mk _ _ _ _ _ c _ _=>c
def Plan.agg:Plan->Int| .mk _ _ _ _ _ _ c _=>c
def Plan.attrs:Plan->List Attr| .mk _ _ _ _ _ _ _ l=>l
def bC(p:Plan):plan p= .ak [I p.kind,I p.table,plans p.kids,xQ p.tests,ints p.cols,I p.col,I p.agg,attrs p.attrs]:=by
 cases p;simp only [plan,IR];rfl
abbrev nP(p:Plan)(l:List dO):PD:=.ak [I p.kind,I p.table,plans p.kids,xQ p.tests,ints p.cols,I p.col,I p.agg,attrs p.attrs,H6 l]
def Kw(l:List AP)(p:AP->Bool):aG aa 333 [.pd (.list 12 (l.map tst)),.fn (decides tst p l)] [I (jC p l)]:=by
 refine aG.mk Tryz.func333 λw G=>?_;refine R.bound 0 (sz:=12) (ds:=l.map tst) rfl λhl=>?_;have hl:l.length<=9223372036854775807:=xe;refine ac ?_;refine R.fam (λk:Nat=>⟨19,[(0,.pd (.list 12 (l.map tst))),(1,.fn (decides tst p l)),(7,.pd (I l.length)),(8,.pd (I k))],[],[],[],[]⟩) (λk=>k<=l.length/\(l.take k).any p=false) (λk=>l.length-k) 0 ⟨qk,qr⟩ j8 ?_;rintro k ⟨b,H⟩
 (refine aJ 60 _ _ ?_;simp only [go_sem,I])
 refine⟨λh=>?_,λh=>?_⟩
 ·have t:k<l.length:=uu h
  (refine aJ 60 _ _ ?_;simp only [go_sem,I,getD_map,t])
  refine⟨qk,?_⟩;refine R.y rfl (ah xb) (.kN 11 _ _ _ _ (B (p l[k])) rfl rfl rfl ⟨l[k],am t,rfl,rfl⟩) ?_
  (refine aJ 60 _ _ ?_;simp only [go_sem,B])
  refine⟨λa=>?_,λa=>?_⟩
  ·refine ac ?_
   refine R.dS (vc:=True) ?_ trivial;rw [mZ t H a];rfl
  ·(refine aJ 60 _ _ ?_;simp only [go_sem,wrapN (k:=k) qk])
   refine R.nZ (k+1) ⟨qk,?_⟩ va xb;rw [bh t,fk,H];simpa using a
 ·have e:¬k<l.length:=uu h
  refine ac ?_;refine R.dS (vc:=True) ?_ trivial;rw [bi qk]at H;rw [ng H];rfl
def wP(l:List AP)(p:AP->Bool):aG aa 261 [.pd (.list 12 (l.map tst)),.fn (decides tst p l)] [B (l.any p)]:=by
 refine aG.mk Tryz.func261 λw G=>?_;refine ac ?_;refine R.lY (Kw l p) rfl rfl (zc (.cons (.fn _) .nil)) qr xb ?_
 (refine aJ 40 _ _ ?_;simp only [go_sem,I])
 refine R.dS (vc:=True) ?_ trivial;rw [<-xO];rfl
def C4:aF aa 262:=λ_ _=>qq
def LW(l:List Attr)(d:l.length<=1000000000):fV aa 259 [.pd (attrs l)] [] [] (λres M=>res= .own ⟨114,6,l.map attr⟩/\M=[]):=by
 refine fV.mk Tryz.func259 λw G=>?_;refine ac ?_;refineλb a=>⟨λh=>?_,λh=>?_⟩
 ·refine ac ?_
  refine R.mV 2 2 114 6 qn rfl rfl ?_;simp only [go_sem];refine R.yJ rfl rfl rfl ⟨?_,rfl⟩;rw [a h]
 ·(refine aJ 3 _ _ ?_;simp only [go_sem])
  refine R.empty 5 rfl rfl rfl rfl qn wF (by rw [UL,wG];decide) (by rw [UL,wH];rfl) ?_;refine ac ?_;refine R.append rfl rfl (ah qn) rfl rfl rfl (es:=l.map attr) rfl wF rfl wG qu (congrArg (bB aR) wH) rfl (λi H=>?_) ?_ ?_ ?_
  ·simp only [al]at H
   simp only [getD_map,H];rfl
  ·rw [UL,yB];simp;omega
  ·simp [maxLen];omega
  refine ac ?_;exact R.yJ rfl rfl rfl ⟨rfl,rfl⟩
def _root_.Go.au.RY.zJ{C:Cx}{T:List Oper}{o:Oper}{l:List Oper}{k:List KI}{s:St}{f:FuncId}{xs:Array Operand}{e:Array TypeId}{args:List SV}{rs:List PD}{b:Bool}{j t:Nat}{a c:Bool}(n:o.guard=some (j,a))(m:(all[j]?).bind (·.dst)=some t)(d:s.get t= .pd (.raw (.bool c)))(g:o.op= .call ⟨.value (.func f),xs,e⟩)
  (h:(c==a)=true->qF (c==a) (o.op.operands.toList.map (aO s))/\iD C.P s.var s.row (xs.toList.map (yI s)) args b/\aG C.P f args rs)(i:b=true->plain rs=true)(p:dN s o)(next:RY C all T k l (s.put o.dst (.gd (c==a) (eX rs)))):RY C all T k (o::l) s:=
 ⟨_,.inr (.inl ⟨j,a,t,c,_,n,m,.inl d,rfl,λH=>⟨(h H).1,.call f xs e args rs b g (h H).2.1 (h H).2.2 i⟩⟩),ah p,next⟩
def Mk(t:AP)(l:List Attr):aG aa 262 [.pd (tst t),.ref (attrs l) 0] [B (!wO t l.length)]:=by
 refine aG.mk Tryz.func262 λw G=>?_
 (refine dD [(7,.of (J2 t l.length))] 120 _ _ ?_;simp only [go_sem,Go.au.eF,jr,↓reduceIte,Tryz.results262])
def Ie(p q:Plan):Bool:=!p.tests.isEmpty && !p.tests.any λt=>!wO t q.attrs.length
def Vk(p q:Plan)(tl:List dO)(H:p.kids=[q]):aG aa 161 [.pd (nP p tl)] [attrs q.attrs,B (Ie p q)]:=by
 refine aG.mk Tryz.func161 λw G=>?_;simp only [nP,H];apply aI;simp only [go_sem,cW,bC q];repeat refine⟨qk,?_⟩
 refine R.dA 16 80 mixed qv ?_;simp only [go_sem];refine RY.zJ (rs:=[B (p.tests.any λt=>!wO t q.attrs.length)]) rfl rfl rfl rfl (λ_=>⟨vu,zc (.cons (Co.oq (attrs q.attrs) rfl C4 (by rintro E r ⟨x,_,rfl,rfl⟩;exact Mk x q.attrs)) .nil),wP p.tests (λt=>!wO t q.attrs.length)⟩) ke qn ?_;refine z6 ?_;refine ac ?_;refine R.rC ?_
 have e:Ie p q=if decide ((p.tests.length:Int)>0)=true then !(p.tests.any λt=>!wO t q.attrs.length)else false:=by
  unfold Ie;cases h:p.tests<;>simp
 rw [e];rfl
def Ti(p q:Plan)(tl:List dO)(k:p.kids=[q])(a:p.cols.length<=1000000000)(b:q.attrs.length<=1000000000):bg aa 164 [.pd (nP p tl)] (N9 (fC q.attrs p.cols)):=by
 have H:=Mj q.attrs p.cols a qk
 cases h:fC q.attrs p.cols with
 |none=>
  rw [h]at H;refine bg.mk Tryz.func164 λw G=>?_;simp only [nP,k];refine ai ?_;refine R.dA 12 80 mixed qv ?_;simp only [go_sem,cW,bC q];repeat refine⟨qk,?_⟩
  refine RY.kW (H) rfl rfl ze ?_
  (refine bY 80 _ _ ?_;simp only [go_sem,N9])
  refine ac ?_;refine R.rW ?_;rfl
 |some l=>
  rw [h]at H;refine bg.mk Tryz.func164 λw G=>?_;simp only [nP,k];refine ai ?_;refine R.dA 12 80 mixed qv ?_;simp only [go_sem,cW,bC q];repeat refine⟨qk,?_⟩
  refine RY.kW (H) rfl rfl ze ?_
  (refine bY 80 _ _ ?_;simp only [go_sem,N9])
  refine ac ?_;refine R.rW ?_;rfl
def both_ok(p q r:Plan)(tl:List dO)(h:p.kids=[q,r]):aG aa 168 [.pd (nP p tl)] [attrs q.attrs,B (oz q.attrs r.attrs)]:=by
 refine aG.mk Tryz.func168 λw G=>?_;simp only [nP,h];refine ai ?_;refine R.dA 19 80 mixed qv ?_;simp only [go_sem,cW,Int.toNat_one,bC q,bC r];repeat refine⟨qk,?_⟩
 refine RY.kC (Vj q.attrs r.attrs) rfl rfl ze ?_;refine z6 ?_;refine ac ?_;refine R.rC ?_;rfl
def Attr.named(a:Attr)(n:ByteArray):Attr:=⟨n,a.kind,a.was,a.dflt⟩
def Vl(a:Attr)(n:ByteArray):spl (attr a) 0 (S n)=attr (a.named n):=by
 unfold spl;rfl
def Oa(r:Option (List Attr)):List PD:=N9 r
def vw(p q:Plan):Option (List Attr):=
 if h:(0<=p.col/\p.col.toNat<q.attrs.length)/\p.attrs.length=q.attrs.length then
  some (q.attrs.set p.col.toNat ((q.attrs[p.col.toNat]'h.1.2).named (p.attrs[p.col.toNat]' qk).name))else none
def Xw(p q:Plan)(tl:List dO)(k:p.kids=[q])(i:q.attrs.length<=1000000000):bg aa 171 [.pd (nP p tl)] (Oa (vw p q)):=by
 refine bg.mk Tryz.func171 λw G=>?_;simp only [nP,k];apply aI;simp only [go_sem,cW,bC q];repeat refine⟨qk,?_⟩
 refine R.ig xp 4 xp rfl rfl (ah qn) zd (LW q.attrs i) (λr m h=>xc) (λr h=>xy) ?_;rintro s M ⟨rfl,rfl⟩ d;clear d;simp only [Behind];refine ai ?_;refine⟨λh=>?_,λh=>?_⟩
 ·have o:vw p q=none:=by
   unfold vw;rw [ew];intro d
   split at h<;>simp at* <;>omega
  rw [o];refine ac ?_;refine R.rW ?_;rfl
 ·have H:(0<=p.col/\p.col.toNat<q.attrs.length)/\p.attrs.length=q.attrs.length:=by
   split at h<;>simp at* <;>omega
  obtain⟨n,g⟩:=m9 H.1.1;have a:p.col.toNat=n:=qk;have f:n<q.attrs.length:=qk;have b:n<p.attrs.length:=qk
  have v:vw p q=some (q.attrs.set n (q.attrs[n].named p.attrs[n].name)):=by
   unfold vw;rw [dc H];simp only [a]
  rw [v];clear v H h;apply aI;simp only [go_sem,g];refine R.dA 13 80 mixed qv ?_;simp only [go_sem,getD_map,b];repeat refine⟨qk,?_⟩
  apply aI;simp only [go_sem,AH,al];repeat refine⟨qk,?_⟩
  have e:(q.attrs.map attr).set n (spl ((q.attrs.map attr).getD n (.ak [])) 0 (S p.attrs[n].name))=(q.attrs.set n (q.attrs[n].named p.attrs[n].name)).map attr:=by
   rw [getD_map _ _ _ f,gS,Vl]
  refine z5 e ?_;refine R.dI 4 rfl rfl ?_;simp only [go_sem];refine R.rW ?_;rfl
def Vm(l p:List Attr)(i:Nat)(a:Attr):Attr:=match p[i]? with|some b=>if Fj l b.name=i then a.named b.name else a|none=>a
def lN(l p:List Attr)(k:Nat):List Attr:=l.mapIdx λi a=>if i<k then Vm l p i a else a
def LX(l p:List Attr):List Attr:=l.mapIdx (Vm l p)
def LY(l p:List Attr)(k:Nat):(lN l p k).length=l.length:=by simp [lN]
def C5(l p:List Attr):lN l p 0=l:=by
 apply cJ<;>simp [lN]
def JN(l p:List Attr)(k:Nat)(h:min l.length p.length<=k):lN l p k=LX l p:=by
 apply cJ
 ·simp [lN,LX]
 ·intro i d a
  have b:i<l.length:=by simpa [LX]using a
  simp only [lN,LX,pT]
  by_cases H:i<k
  ·simp [H]
  ·have:p[i]? =none:=dl qk
   simp [H,Vm,this]
def Ml(l p:List Attr)(k:Nat)(a:k<p.length)(h:Fj l p[k].name≠k):lN l p (k+1)=lN l p k:=by
 apply cJ
 ·simp [lN]
 ·intro i b _
  simp only [lN,pT]
  by_cases H:i<k
  ·rw [af H,af qk]
  ·rw [ae H]
   by_cases e:i=k
   ·subst e
    rw [af qk];simp [Vm,ca a,h]
   ·rw [ae qk]
def JP(l p:List Attr)(k:Nat)(d:k<l.length)(a:k<p.length)(h:Fj l p[k].name=k):lN l p (k+1)=(lN l p k).set k (l[k].named p[k].name):=by
 apply cJ
 ·simp [lN]
 ·intro i b _
  rw [nm];simp only [lN,pT]
  by_cases e:k=i
  ·subst e
   rw [af qk,af rfl];simp [Vm,ca a,h]
  ·rw [ae e]
   by_cases H:i<k
   ·rw [af H,af qk]
   ·rw [ae H,ae qk]
def JS(l p:List Attr)(k:Nat)(h:k<l.length):(lN l p k)[k]'(by rw [LY];exact h)=l[k]:=by simp [lN]
def JT(l p:List Attr)(k:Nat)(H:k<l.length)(a:k<p.length)(h:Fj l p[k].name=k):((lN l p k).map attr).set k (spl (((lN l p k).map attr).getD k (.ak [])) 0 (S p[k].name))=(lN l p (k+1)).map attr:=by
 rw [getD_map _ _ _ (by rw [LY];exact H),JS l p k H,Vl,JP l p k H a h,gS]
def vC(p:Plan)(tl:List dO):Option (List Attr):=if h:0<=p.table/\p.table.toNat<tl.length then some (LX (tl[p.table.toNat]'h.2).attrs p.attrs)else none
def Ka(p:Plan)(tl:List dO)(E:∀t∈tl,t.attrs.length<=1000000000):bg aa 158 [.pd (nP p tl)] (Oa (vC p tl)):=by
 refine bg.mk Tryz.func158 λw G=>?_;simp only [nP];refine ai ?_;refine⟨λh=>?_,λh=>?_⟩
 ·have o:vC p tl=none:=by
   unfold vC;rw [ew];intro g
   split at h<;>simp at* <;>omega
  rw [o];refine ac ?_;refine R.rW ?_;rfl
 ·have H:0<=p.table/\p.table.toNat<tl.length:=by
   split at h<;>simp at* <;>omega
  obtain⟨n,u⟩:=m9 H.1;have f:p.table.toNat=n:=qk;have q:n<tl.length:=qk
  have v:vC p tl=some (LX tl[n].attrs p.attrs):=by
   unfold vC;rw [dc H];simp only [f]
  rw [v];clear v H h;have b:=E tl[n] (am q);generalize e:tl[n]=t at b;apply aI;simp only [go_sem,u,getD_map,q,e];repeat refine⟨qk,?_⟩
  refine R.ig xp 5 xp rfl rfl (ah qn) zd (LW t.attrs b) (λr m h=>xc) (λr h=>xy) ?_;rintro j M ⟨rfl,rfl⟩ g;clear g;simp only [Behind];have x:(if(p.attrs.length:Int)<(t.attrs.length:Int)then(p.attrs.length:Int)else(t.attrs.length:Int))=((min t.attrs.length p.attrs.length:Nat):Int):=by split<;>omega
  have z:t.attrs.map attr=(lN t.attrs p.attrs 0).map attr:=by rw [C5]
  apply aI;simp only [go_sem,x];refine R.fU (λ(k:Nat) s=>St.lp [0,1,2,3,4,5,7,8,9,10,11,12,13,14,15,16,17,18,19,20,21,22,23,24,25,26,27,28,29,30,31,32,33,34,35,36,37,38,65] [(39,.pd (I k)),(5,.own 5)] [1,4] [] [] [(5,⟨114,6,(lN t.attrs p.attrs k).map attr⟩)] s) (λ(k:Nat)=>k<=min t.attrs.length p.attrs.length) (λ(k:Nat)=>min t.attrs.length p.attrs.length-k) (0) qk ?_ (by(simp only [go_sem,z]);all_goals(and_intros<;>rfl));intro k J;refine ai ?_;refine⟨λh=>?_,λh=>?_⟩
  ·have A:k<min t.attrs.length p.attrs.length:=uu h
   have i:k<t.attrs.length:=qk;have d:k<p.attrs.length:=qk;refine ai ?_;refine R.dA 10 80 mixed qv ?_;simp only [go_sem,getD_map,d];repeat refine⟨qk,?_⟩
   refine RY.kC (Zw t p.attrs[k].name) rfl rfl ze ?_;refine z6 ?_;refine ai ?_;have C:k<(lN t.attrs p.attrs k).length:=by rw [LY];exact i
   refine⟨λa=>?_,λa=>?_⟩
   ·have a:Fj t.attrs p.attrs[k].name=k:=uu a
    have hs:=JT t.attrs p.attrs k i d a;apply aI;simp only [go_sem,getD_map,d,hs,wrapN (k:=k) qk];repeat refine⟨qk,?_⟩
    refine R.fE (k+1) qk (l:=xl)
   ·have a:Fj t.attrs p.attrs[k].name≠k:=uu a
    have hs:=Ml t.attrs p.attrs k d a;apply aI;simp only [go_sem,wrapN (k:=k) qk];refine R.fE (k+1) qk (l:=xr)
  ·have D:¬k<min t.attrs.length p.attrs.length:=uu h
   rw [JN t.attrs p.attrs k qk];refine ac ?_;refine R.dI 5 rfl rfl ?_;simp only [go_sem];refine R.rW ?_;rfl
def Mm{α:Type}(p:α->Bool)(l:List α):jC p l<l.length:=by
 unfold jC
 cases h:l.findIdx? p with
 |none=>simp;omega
 |some i=>
  rw [jN]at h;obtain⟨H,_⟩:=h;simp;exact H
def nR(a:List Attr):List Attr->List Attr->Option (List Attr)
 |out,[]=>some out
 |out,b::bs=>if mF a b.name<0 then nR a (out++[b]) bs else if(out.map (·.kind)).getD (mF a b.name).toNat 0≠b.kind then none else nR a out bs
def Mn(p q r:Plan)(tl:List dO)(i:p.kids=[q,r])(C:q.attrs.length<=100000000)(A:r.attrs.length<=100000000):bg aa 166 [.pd (nP p tl)] (Oa (nR q.attrs q.attrs r.attrs)):=by
 refine bg.mk Tryz.func166 λw G=>?_;simp only [nP,i];apply aI;simp only [go_sem,cW,bC q,bC r];repeat refine⟨qk,?_⟩
 refine R.ig xp 4 xp rfl rfl (ah qn) zd (LW q.attrs qk) (λr m h=>xc) (λr h=>xy) ?_;rintro v M ⟨rfl,rfl⟩ x;clear x;simp only [Behind];apply aI;simp only [go_sem,Int.toNat_one,bC q,bC r];repeat refine⟨qk,?_⟩
 refine R.fU (λ(k:Nat×List Attr) s=>St.lp [0,1,8,9,10,11,12,13,15,16,17,18,19,20,21,52] [(22,.pd (I k.1)),(4,.own 4)] [1] [] [] [(4,⟨114,6,k.2.map attr⟩)] s) (λ(k:Nat×List Attr)=>k.1<=r.attrs.length/\nR q.attrs q.attrs r.attrs=nR q.attrs k.2 (r.attrs.drop k.1)/\q.attrs.length<=k.2.length/\k.2.length<=q.attrs.length+k.1) (λ(k:Nat×List Attr)=>r.attrs.length-k.1) ((0,q.attrs)) (⟨ui,qr,qr,qr⟩) ?_;rintro⟨k,o⟩ ⟨i,H,b,g⟩;have i:k<=r.attrs.length:=i;have H:nR q.attrs q.attrs r.attrs=nR q.attrs o (r.attrs.drop k):=H;have b:q.attrs.length<=o.length:=b;have g:o.length<=q.attrs.length+k:=g;refine ai ?_;refine⟨λh=>?_,λh=>?_⟩
 ·have t:k<r.attrs.length:=uu h
  have u:mF q.attrs r.attrs[k].name<q.attrs.length:=Mm _ _;rw [drop_cons t,nR]at H;refine z7 t ?_;refine R.dA 8 80 mixed qv ?_;simp only [go_sem,cW,bC q,bC r];repeat refine⟨qk,?_⟩
  refine R.kC (Q7 q.attrs r.attrs[k].name) rfl rfl ze ?_;generalize mF q.attrs r.attrs[k].name=c at u H;refine ai ?_;refine⟨λa=>?_,λa=>?_⟩
  ·have a:c<0:=uu a
   rw [af a]at H;refine ai ?_;refine R.iy (d:=attr r.attrs[k]) 1000000000 80 rfl rfl qn rfl rfl rfl rfl wF rfl wG qr (congrArg (bB aR) wH) rfl yB qz qu qu ?_;apply ev8;simp only [go_sem,wrapN (k:=k) qk];refine R.fE (k+1,o++[r.attrs[k]]) ⟨yz,H,qz,qz⟩ (hm:=vj) (l:=by(simp only [go_sem,bl]);all_goals(and_intros<;>first|rfl))
  ·have a:¬c<0:=uu a
   rw [ae a]at H;obtain⟨n,rfl⟩:=m9 (Int.not_lt.1 a);have f:n<o.length:=qk;have j:(o.map (·.kind)).getD n 0=o[n].kind:=by simp [f]
   rw [AH,j]at H;refine ai ?_;refine R.dA 7 80 mixed qv ?_;simp only [go_sem,getD_map,f];repeat refine⟨qk,?_⟩
   refine ai ?_;refine⟨λe=>?_,λe=>?_⟩
   ·have e:o[n].kind≠r.attrs[k].kind:=uu e
    rw [af e]at H;rw [H];refine ac ?_;refine R.rW ?_;rfl
   ·have e:¬o[n].kind≠r.attrs[k].kind:=uu e
    rw [ae e]at H;apply aI;simp only [go_sem,wrapN (k:=k) qk];refine R.fE (k+1,o) ⟨yz,H,b,by show o.length<=_+(k+1);omega⟩ vj
 ·have z:¬k<r.attrs.length:=uu h
  rw [cC qk,nR]at H;rw [H];refine ac ?_;refine R.dI 4 rfl rfl ?_;simp only [go_sem];refine R.rW ?_;rfl
def Zx(p:Plan):aG aa 156 [.pd (plan p)] [.ak [I p.kind,I p.table,plans p.kids,xQ p.tests,NIL,I p.col,I p.agg,attrs p.attrs]]:=by
 rw [bC p];refine aG.mk Tryz.func156 λw G=>?_
 (refine dD [] 120 _ _ ?_;simp only [go_sem,Go.au.eF,jr,↓reduceIte,Tryz.results156])
def Fv(p:Plan):aG aa 157 [.pd (plan p)] [.ak [I p.kind,I p.table,plans p.kids,xQ p.tests,ints p.cols,I p.col,I p.agg,attrs p.attrs]]:=by
 rw [bC p];refine aG.mk Tryz.func157 λw G=>?_
 (refine dD [] 120 _ _ ?_;simp only [go_sem,Go.au.eF,jr,↓reduceIte,Tryz.results157])
def Zy(p:Plan):aG aa 160 [.pd (plan p)] [.ak [I p.kind,I 0,plans p.kids,xQ p.tests,ints p.cols,I p.col,I p.agg,attrs p.attrs]]:=by
 rw [bC p];refine aG.mk Tryz.func160 λw G=>?_
 (refine dD [] 120 _ _ ?_;simp only [go_sem,Go.au.eF,jr,↓reduceIte,Tryz.results160])
def Zz(p:Plan):aG aa 163 [.pd (plan p)] [.ak [I p.kind,I p.table,plans p.kids,NIL,ints p.cols,I p.col,I p.agg,attrs p.attrs]]:=by
 rw [bC p];refine aG.mk Tryz.func163 λw G=>?_
 (refine dD [] 120 _ _ ?_;simp only [go_sem,Go.au.eF,jr,↓reduceIte,Tryz.results163])
def ZA(p:Plan):aG aa 173 [.pd (plan p)] [.ak [I p.kind,I p.table,plans p.kids,xQ p.tests,ints p.cols,I 0,I p.agg,attrs p.attrs]]:=by
 rw [bC p];refine aG.mk Tryz.func173 λw G=>?_
 (refine dD [] 120 _ _ ?_;simp only [go_sem,Go.au.eF,jr,↓reduceIte,Tryz.results173])
def ZB(p:Plan):aG aa 176 [.pd (plan p)] [.ak [I p.kind,I p.table,plans p.kids,xQ p.tests,NIL,I 0,I 0,attrs p.attrs]]:=by
 rw [bC p];refine aG.mk Tryz.func176 λw G=>?_
 (refine dD [] 120 _ _ ?_;simp only [go_sem,Go.au.eF,jr,↓reduceIte,Tryz.results176])
abbrev F(n:Nat):PD:=.raw (.func (.func n) #[] #[])
abbrev key(n:Int):Value:=.int .i64 n
def kQ:jo:=[(key 1,.ak [I 0,F 158,F 159,F 160]),(key 2,.ak [I 1,F 161,F 162,F 163]),(key 3,.ak [I 1,F 164,F 165,F 156]),(key 4,.ak [I 2,F 166,F 167,F 157]),
 (key 5,.ak [I 2,F 168,F 169,F 157]),(key 6,.ak [I 2,F 168,F 170,F 157]),(key 7,.ak [I 1,F 171,F 172,F 173]),(key 8,.ak [I 1,F 174,F 175,F 176])]
def Kb:bg aa 105 [] [.mp (kQ.map (·.1)) (kQ.map (·.2))]:=by
 refine bg.mk Tryz.func105 λw G=>?_;refine ac ?_;refine R.makeMap rfl rfl rfl qn λr h H=>?_;clear H;refine ac ?_;refine R.jA (.inr rfl) rfl (ah qn) rfl xf rfl rfl wI rfl vt (.inl h) ?_;apply ev8;simp only [go_sem,fK];refine R.jA (.inr rfl) rfl (ah qn) rfl xf rfl rfl wI rfl vt (.inl h) ?_;apply ev8;simp only [go_sem,fK];refine R.jA (.inr rfl) rfl (ah qn) rfl xf rfl rfl wI rfl vt (.inl h) ?_;apply ev8;simp only [go_sem,fK];refine R.jA (.inr rfl) rfl (ah qn) rfl xf rfl rfl wI rfl vt (.inl h) ?_;apply ev8;simp only [go_sem,fK];refine R.jA (.inr rfl) rfl (ah qn) rfl xf rfl rfl wI rfl vt (.inl h) ?_;apply ev8;simp only [go_sem,fK];refine R.jA (.inr rfl) rfl (ah qn) rfl xf rfl rfl wI rfl vt (.inl h) ?_;apply ev8;simp only [go_sem,fK];refine R.jA (.inr rfl) rfl (ah qn) rfl xf rfl rfl wI rfl vt (.inl h) ?_;apply ev8;simp only [go_sem,fK];refine R.jA (.inr rfl) rfl (ah qn) rfl xf rfl rfl wI rfl vt (.inl h) ?_;apply ev8;simp only [go_sem,fK];refine R.Nv r kQ (by simp [St.map,lk,kQ]) h ?_;simp only [go_sem,SV.thaw,PD.thaw,fK];refine R.rW ?_;rfl
def Ig(p:Plan):(plan p).width=8:=by rw [bC];rfl
def Vo(p:Plan):(plan p).fZ=true:=by rw [bC];rfl
def Ih(l:List Plan)(p:Plan->Bool):aG aa 178 [.pd (.list 8 (l.map plan)),.fn (decides plan p l)] [I (jC p l)]:=by
 refine aG.mk Tryz.func178 λw G=>?_;refine R.bound 0 (sz:=8) (ds:=l.map plan) rfl λhl=>?_;have hl:l.length<=9223372036854775807:=xe;refine ac ?_;refine R.fam (λk:Nat=>⟨19,[(0,.pd (.list 8 (l.map plan))),(1,.fn (decides plan p l)),(7,.pd (I l.length)),(8,.pd (I k))],[],[],[],[]⟩) (λk=>k<=l.length/\(l.take k).any p=false) (λk=>l.length-k) 0 ⟨qk,qr⟩ j8 ?_;rintro k ⟨b,H⟩
 (refine aJ 60 _ _ ?_;simp only [go_sem,I])
 refine⟨λh=>?_,λh=>?_⟩
 ·have t:k<l.length:=uu h
  (refine aJ 60 _ _ ?_;simp only [go_sem,getD_map,t,Ig,Vo])
  refine⟨qk,?_⟩;refine R.y rfl (ah xb) (.kN 11 _ _ _ _ (B (p l[k])) rfl rfl rfl ⟨l[k],am t,rfl,rfl⟩) ?_
  (refine aJ 60 _ _ ?_;simp only [go_sem,B])
  refine⟨λa=>?_,λa=>?_⟩
  ·refine ac ?_
   refine R.dS (vc:=True) ?_ trivial;rw [mZ t H a];rfl
  ·(refine aJ 60 _ _ ?_;simp only [go_sem,wrapN (k:=k) qk])
   refine R.nZ (k+1) ⟨qk,?_⟩ va xb;rw [bh t,fk,H];simpa using a
 ·have e:¬k<l.length:=uu h
  refine ac ?_;refine R.dS (vc:=True) ?_ trivial;rw [bi qk]at H;rw [ng H];rfl
def Eb(l:List Plan)(p:Plan->Bool):aG aa 107 [.pd (.list 8 (l.map plan)),.fn (decides plan p l)] [B (l.any p)]:=by
 refine aG.mk Tryz.func107 λw G=>?_;refine ac ?_;refine R.lY (Ih l p) rfl rfl (zc (.cons (.fn _) .nil)) qr xb ?_
 (refine aJ 40 _ _ ?_;simp only [go_sem,I])
 refine R.dS (vc:=True) ?_ trivial;rw [<-xO];rfl
def Mf:aF aa 52:=λ_ _=>qq
mutual
def grp:Plan->Bool
 | .mk k _ kids _ _ _ _ _=>k==8||ZC kids
def ZC:List Plan->Bool
 | []=>false
 |p::l=>grp p||ZC l
end
def Vp:∀l:List Plan,ZC l=l.any grp
 | []=>rfl
 |p::l=>by rw [ZC,Vp l];rfl
def s4(p:Plan):grp p=(p.kind==8||p.kids.any grp):=by
 cases p;rw [grp,Vp];rfl
def Qa{p x:Plan}(h:x∈p.kids):SizeOf.sizeOf x<SizeOf.sizeOf p:=by
 cases p
 have:=List.sizeOf_lt_of_mem h;simp only [Plan.kids]at this;simp only [Plan.mk.sizeOf_spec];omega
def Q8:∀(n:Nat) (p:Plan),SizeOf.sizeOf p<=n->aG aa 52 [.pd (plan p)] [B (grp p)]
 |0,p,h=>by cases p;simp at h
 |n+1,p,h=>by
  have i:∀x∈p.kids,aG aa 52 [.pd (plan x)] [B (grp x)]:=λx H=>Q8 n x (by have:=Qa H;omega);rw [bC p];refine aG.mk Tryz.func52 λw G=>?_;refine ac ?_;refine R.zJ (rs:=[B (p.kids.any grp)]) rfl rfl rfl rfl (λ_=>⟨vu,zc (.cons (Co.func 52 _ Mf (by rintro E r ⟨x,H,rfl,rfl⟩;exact i x H)) .nil),Eb p.kids grp⟩) ke qn ?_;refine ac ?_;refine R.rC ?_
  have e:grp p=if(p.kind==8)=true then true else p.kids.any grp:=by
   rw [s4];cases(p.kind==8)<;>simp
  rw [e];rfl
def ZE(p:Plan):aG aa 52 [.pd (plan p)] [B (grp p)]:=Q8 _ p (a3 _)
abbrev LIM:Value:=.iface 50 (.int .i64 3)
def Qb(n m:Int):fV aa 189 [.pd (I n),.pd (I m)] [] [] (λres M=>M=[]/\if n<=m then res= .ret []else res= .nJ LIM):=by
 refine fV.mk Tryz.func189 λw G=>?_;refine ac ?_;refine⟨λh=>?_,λh=>?_⟩
 ·have h:¬n<=m:=uu h
  refine ac ?_;refine R.nJ rfl rfl rfl ⟨rfl,?_⟩;rw [ae h]
 ·have h:n<=m:=uu h
  refine ac ?_;refine R.Y3 (vc:=True) [] rfl trivial ⟨rfl,?_⟩ (λr m h=>xc);rw [af h]
end Go.Proofs.Z
namespace Go.au
def gu(L:Array Bool):Nat:=(L.toList.zipIdx).foldl (λm p=>if p.1 then m|||2 ^ p.2 else m) 0
def enB(all:Array Oper)(m i:Nat):Bool:=!m.testBit i&&match all[i]? with|some o=>o.after.toList.all λe=>!Region.binds .any e||m.testBit e.on|none=>false
def ZF(all:Array Oper)(es:List (Nat×Nat)):Bool:=
 true&&(0::es.map λp=>p.1|||2 ^ p.2).all λm=>(aw all.size).all λi=>!enB all m i||es.contains (m,i)
def Q9(j:Nat):∀(l:List Bool) (n m:Nat),((l.zipIdx n).foldl (λm p=>if p.1 then m|||2 ^ p.2 else m) m).testBit j=(m.testBit j||(decide (n<=j)&&(l.getD (j-n) false)))
 | [],n,m=>qr
 |b::l,n,m=>by
  simp only [List.zipIdx_cons,List.foldl_cons];rw [Q9 j l (n+1)]
  by_cases h:j=n
  ·subst h
   cases b with
   |false=>simp;intro h;omega
   |true=>simp
  ·have e:(if b=true then m|||2 ^ n else m).testBit j=m.testBit j:=by
    cases b
    ·simp
    ·simp [nf,bt h]
   rw [e]
   by_cases a:n<=j
   ·have H:n+1<=j:=qk
    have d:j-n=(j-(n+1))+1:=qk;simp only [a,H,fX,eJ,d,lx]
   ·have H:¬n+1<=j:=qk
    simp [a,H]
def lq(L:Array Bool)(j:Nat):(gu L).testBit j=L.getD j false:=by
 unfold gu;rw [Q9 j L.toList 0 0];simp [aL,ag]
section
variable {C:Cx}{s:St}{all:Array Oper}{k:List KI}
def R.tD{id:Nat}(T:Nat->St)(es:List (Nat×Nat))(f:Nat)(hm:C.P.follows .mixedOrders=true)(P:(all.toList.zipIdx).all (λp=>vY p.2 p.1)=true)(d:ZF all es=true)(M:gu (Array.replicate all.size true)=f)
  (Q:R C (.code (.region id all true)::k) (T 0)->R C (.code (.region id all true)::k) s)
  (step:∀p∈es,R C (.ops all ((all.toList.drop p.2).take 1) :: .aU (λt=>t=T (p.1|||2 ^ p.2))::k) (T p.1))(done:R C k (T f)):R C (.code (.region id all true)::k) s:=by
 refine Q ?_;unfold ZF at d;simp only [bj]at d;have d:=(aM.1 d.2);refine R.uv hm P (λL t=>t=T (gu L)/\gu L∈(0::es.map λp=>p.1|||2 ^ p.2)) ?_ ?_ ?_
 ·have:gu (Array.replicate all.size false)=0:=by
   apply mN;intro j;rw [lq];simp [Array.getD]
  exact⟨by rw [this],by rw [this];exact bk ..⟩
 ·rintro L t i o K x u l ⟨rfl,m⟩
  have D:=(bm.1 x).1
  have z:enB all (gu L) i=true:=by
   unfold enB;rw [lq,u,x];simp only [cH,eJ,aM];intro e N;rw [lq]
   cases O:Region.binds .any e with
   |false=>rfl
   |true=>rw [l e (uu N) O];rfl
  have n:=(aM.1 (d _ m)) i (uu D);rw [z]at n;have n:(gu L,i)∈es:=uu n;have b:=step _ n
  have G:gu (L.setIfInBounds i true)=gu L|||2 ^ i:=by
   apply mN;intro j;rw [lq,nf,lq,ri]
   by_cases c:i=j
   ·subst c;rw [uq (by rw [K];exact D)];simp
   ·rw [getD_set_ne false c];simp [c]
  have v:(all.toList.drop i).take 1=[o]:=by
   have:all.toList[i]? =some o:=uu x;obtain⟨H,A⟩:=kv.1 this;rw [ij H,A];rfl
  simp only [v]at b;have:(λt=>t=T (gu L|||2 ^ i))=λt=>t=T (gu (L.setIfInBounds i true)):=by rw [G]
  rw [this]at b;intro a w E g;have H:=b a w E g;simp only [fin]at H⊢
  have q:∀e a w,fin C (.aU (λt=>t=T (gu (L.setIfInBounds i true)))::k) e a w->fin C (.aU (λt=>t=T (gu (L.setIfInBounds i true))/\gu (L.setIfInBounds i true)∈(0::es.map λp=>p.1|||2 ^ p.2))::k) e a w:=by
   intro e a w h
   cases e with
   |normal=>
    obtain⟨s',Z,rfl,U⟩:=h;exact⟨_,Z,⟨rfl,b3 _ (aq.2 ⟨_,n,G.symm⟩)⟩,U⟩
   |exit _=>exact h
   |goto _=>exact h
   |ret=>exact h
   |panic _=>exact h
   |outgrown=>exact h
  simp only [wpList]at H⊢
  split
  ·rename_i r
   rw [af r]at H;rcases H with H|⟨H,X,J,A⟩
   ·exact .inl (Oper.EM (λa w h=>q .normal a w h) (λe a w _ h=>q e a w h) H)
   ·exact .inr ⟨H,X,J,q _ _ _ A⟩
  ·rename_i r
   rw [ae r]at H;exact q .normal _ _ H
 ·rintro t ⟨rfl,_⟩
  rw [M];exact done
end
end Go.au
namespace Go.Proofs.Z
open Go.au
def Re:aF aa 251:=λ_ _=>qq
def Q6:aF aa 252:=λ_ _=>qq
def jP(l:List Attr):List ByteArray:=l.flatMap λa=>a.name::a.was
def yM(a:Attr):Bool:=decide (1<=a.kind)&&decide (a.kind<=4)&&Dn a.kind a.dflt
def keysB(n:Nat):Option Int->List Int->Bool
 |_,[]=>true
 |p,k::l=>decide (0<=k)&&decide (k<(n:Int))&&(match p with|some q=>decide (q<k)|none=>true)&&keysB n (some k) l
def C6(n:Nat)(p:Option Int):keysB n p []=true:=by cases p<;>rfl
def ZG(n:Nat)(p:Option Int)(k:Int)(l:List Int):keysB n p (k::l)=(decide (0<=k)&&decide (k<(n:Int))&&(match p with|some q=>decide (q<k)|none=>true)&&keysB n (some k) l):=by cases p<;>rfl
def ni(t:dO):Bool:=pz t.name && !t.attrs.isEmpty&&decide (t.attrs.length<=12) && !t.key.isEmpty&&t.attrs.all yM&&(jP t.attrs).all pz&&decide (jP t.attrs).Nodup&&keysB t.attrs.length none t.key
def okA(a:Attr):Prop:=a.name.size<=1000000000/\a.was.length<=2000000/\∀s∈a.was,s.size<=1000000000
def Cc(t:dO):Prop:=t.name.size<=1000000000/\t.attrs.length<=1000000000/\t.key.length<=1000000000/\∀a∈t.attrs,okA a
def EE(l:List Attr)(a:Attr):jP (l++[a])=jP l++[a.name]++a.was:=by simp [jP]
def Vq{l:List Attr}(h:∀a∈l,okA a):(jP l).length<=l.length*2000001:=by
 induction l with
 |nil=>simp [jP]
 |cons a l i=>
  have b:=(h a qr).2.1;have H:=i λx hx=>h x ub;simp only [jP,fI,bd,an]at H⊢;omega
def EQ{l:List Attr}(h:∀a∈l,okA a){s:ByteArray}(H:s∈jP l):s.size<=1000000000:=by
 simp only [jP,dC,b8]at H;obtain⟨a,b,rfl|H⟩:=H
 ·exact(h a b).1
 ·exact(h a b).2.2 s H
section
variable {α:Type}[Inhabited α][DecidableEq α]
def Ky{le:α->α->Prop}(A:∀a b,le a b->le b a->a=b){zs:List α}(s:zs.Pairwise le):(cR zs).length<zs.length↔¬zs.Nodup:=by
 unfold cR Lib.compactUpTo;rw [al]
 have m:((aw zs.length).filter (fY zs.toArray)).length<zs.length↔¬∀j,j<zs.length->fY zs.toArray j=true:=by
  constructor
  ·intro h l
   rw [gh.2 (λj H=>l j (uu H))]at h;simp at h
  ·intro h
   rcases cn ((aw zs.length).filter (fY zs.toArray)).length zs.length with d|d
   ·exact d
   ·exfalso
    apply h
    have p:(aw zs.length).filter (fY zs.toArray)=aw zs.length:=by
     refine pS.eq_of_length_le ?_;simpa using d
    intro j H;exact(gh.1 p) j (uu H)
 rw [m];refine not_congr ⟨λh=>?_,λh j H=>?_⟩
 ·rw [List.Nodup,cB]
  intro i j o H n e;have k:=h j H;have f:zs.toArray[j]!≠zs.toArray[j-1]!:=λe=>by rw [Lib.keeps_neg qk e]at k;cases k
  apply f;rw [cp zs.toArray j (uu H),cp zs.toArray (j-1) qz];simp only [Bp];rcases Nat.lt_or_eq_of_le (show i<=j-1 by omega)with d|d
  ·have g:=(cB.1 s) i (j-1) o qk d
   have q:=(cB.1 s) (j-1) j qk H qk;rw [e]at g;exact A _ _ g q|>.symm▸rfl
  ·subst d;exact e.symm
 ·by_cases z:j=0
  ·exact Lib.keeps_lt_one _ j qk
  ·refine Lib.keeps_pos λe=>?_
   rw [cp zs.toArray j (uu H),cp zs.toArray (j-1) qz]at e;simp only [Bp]at e;exact(cB.1 h) (j-1) j qk H qk e.symm
end
def EV(a b:List UInt8):a<=b\/b<=a:=by
 rcases Classical.em (a<=b)with h|h
 ·exact .inl h
 ·exact .inr (List.not_le.1 h|>List.le_of_lt)
abbrev Qc(l:List (List UInt8)):List (List UInt8):=l.mergeSort λx y=>decide (x<=y)
def Fc(l:List (List UInt8)):(Qc l).Pairwise (·<=·):=by
 have:=List.pairwise_mergeSort (le:=λx y:List UInt8=>decide (x<=y)) (λa b c H h=>by simp at*;exact List.le_trans H h) (λa b=>by have:=EV a b;simpa using this) l;simpa using this
abbrev bytes(s:ByteArray):List UInt8:=s.data.toList
def bytes_inj{a b:ByteArray}(h:bytes a=bytes b):a=b:=by
 obtain⟨⟨x⟩⟩:=a;obtain⟨⟨y⟩⟩:=b;simp [bytes]at h;subst h;rfl
def Rf(l:List ByteArray):(cR (Qc (l.map bytes))).length<l.length↔¬l.Nodup:=by
 have h:=Ky (le:=λa b:List UInt8=>a<=b) (λa b d H=>List.le_antisymm d H) (Fc (l.map bytes));rw [gA,al]at h;rw [h,(List.mergeSort_perm _ _).nodup_iff];simp only [List.Nodup,eg];exact not_congr ⟨λh=>h.imp λh e=>h (by rw [e]),λh=>h.imp λh e=>h (bytes_inj e)⟩
def VV:JM encStr aa 251 Qc where
 ent:=Re
 len zs:=gA zs
 some:=λblk off cap zs w h1 h2 h3=>Tryz.slices_Sort_string blk off cap zs w h1 h2 h3
 none:=Tryz.slices_Sort_string_none
def asI:Ve encStr aa 252 cR where
 ent:=Q6
 len zs:=iu zs
 some:=λblk off cap zs w h1 h2 h3=>(Tryz.slices_Compact_string blk off cap zs w h1 h2 h3).mono λe w' ⟨he,q,hw⟩=>⟨he,q,_,by have:=iu zs;simp;omega,λj h=>by
  rw [cp _ _ qz];simp [ik h],hw⟩
 none:=Tryz.slices_Compact_string_empty
def Ff(l:List ByteArray):l.map S=eH encStr (l.map bytes):=by
 simp only [eH,cr];refine c8 λs _=>?_;simp [encStr,S,bytes]
def lZ(n:ByteArray)(A:List Attr)(key:List Int)(k:Nat)(a:Attr)(x:List (Nat×SV))(r:List PD):St:=
 ⟨104,(33,.pd (I k))::(1,.aA 1 0)::(31,.pd (attrs A))::(32,.pd (I A.length))::(5,.aA 5 0)::x,[(1,[.pd (S n),.pd (attrs A),.pd (ints key)]),(5,[.pd (S a.name),.pd (I a.kind),.pd (strs a.was),.pd (I a.dflt.kind),.pd (I a.dflt.n),.pd (S a.dflt.text)])],[(3,⟨9,1,r⟩)],[],[]⟩
attribute [go_sem] lZ
def T9(n:ByteArray)(s:List Attr)(key:List Int)(k:Nat)(a:Attr)(A:List ByteArray):Nat->St
 |0=>lZ n s key k a [(3,.own 3)] (A.map S)
 |1=>lZ n s key k a [(3,.own 3),(53,.own 3)] (A.map S)
 |2=>lZ n s key k a [(3,.own 3),(54,.aA 5 0)] (A.map S)
 |3=>lZ n s key k a [(3,.own 3),(53,.own 3),(54,.aA 5 0)] (A.map S)
 |6=>lZ n s key k a [(3,.own 3),(54,.aA 5 0),(55,.pd (S a.name))] (A.map S)
 |7=>lZ n s key k a [(3,.own 3),(53,.own 3),(54,.aA 5 0),(55,.pd (S a.name))] (A.map S)
 |14=>lZ n s key k a [(3,.own 3),(54,.aA 5 0),(55,.pd (S a.name)),(56,.pd (.list 1 [S a.name]))] (A.map S)
 |15=>lZ n s key k a [(3,.own 3),(53,.own 3),(54,.aA 5 0),(55,.pd (S a.name)),(56,.pd (.list 1 [S a.name]))] (A.map S)
 |31=>lZ n s key k a [(54,.aA 5 0),(55,.pd (S a.name)),(56,.pd (.list 1 [S a.name])),(57,.own 3)] (A.map S++[S a.name])
 |32=>lZ n s key k a [(3,.own 3),(58,.aA 5 2)] (A.map S)
 |33=>lZ n s key k a [(3,.own 3),(53,.own 3),(58,.aA 5 2)] (A.map S)
 |34=>lZ n s key k a [(3,.own 3),(54,.aA 5 0),(58,.aA 5 2)] (A.map S)
 |35=>lZ n s key k a [(3,.own 3),(53,.own 3),(54,.aA 5 0),(58,.aA 5 2)] (A.map S)
 |38=>lZ n s key k a [(3,.own 3),(54,.aA 5 0),(55,.pd (S a.name)),(58,.aA 5 2)] (A.map S)
 |39=>lZ n s key k a [(3,.own 3),(53,.own 3),(54,.aA 5 0),(55,.pd (S a.name)),(58,.aA 5 2)] (A.map S)
 |46=>lZ n s key k a [(3,.own 3),(54,.aA 5 0),(55,.pd (S a.name)),(56,.pd (.list 1 [S a.name])),(58,.aA 5 2)] (A.map S)
 |47=>lZ n s key k a [(3,.own 3),(53,.own 3),(54,.aA 5 0),(55,.pd (S a.name)),(56,.pd (.list 1 [S a.name])),(58,.aA 5 2)] (A.map S)
 |63=>lZ n s key k a [(54,.aA 5 0),(55,.pd (S a.name)),(56,.pd (.list 1 [S a.name])),(57,.own 3),(58,.aA 5 2)] (A.map S++[S a.name])
 |96=>lZ n s key k a [(3,.own 3),(58,.aA 5 2),(59,.pd (strs a.was))] (A.map S)
 |97=>lZ n s key k a [(3,.own 3),(53,.own 3),(58,.aA 5 2),(59,.pd (strs a.was))] (A.map S)
 |98=>lZ n s key k a [(3,.own 3),(54,.aA 5 0),(58,.aA 5 2),(59,.pd (strs a.was))] (A.map S)
 |99=>lZ n s key k a [(3,.own 3),(53,.own 3),(54,.aA 5 0),(58,.aA 5 2),(59,.pd (strs a.was))] (A.map S)
 |102=>lZ n s key k a [(3,.own 3),(54,.aA 5 0),(55,.pd (S a.name)),(58,.aA 5 2),(59,.pd (strs a.was))] (A.map S)
 |103=>lZ n s key k a [(3,.own 3),(53,.own 3),(54,.aA 5 0),(55,.pd (S a.name)),(58,.aA 5 2),(59,.pd (strs a.was))] (A.map S)
 |110=>lZ n s key k a [(3,.own 3),(54,.aA 5 0),(55,.pd (S a.name)),(56,.pd (.list 1 [S a.name])),(58,.aA 5 2),(59,.pd (strs a.was))] (A.map S)
 |111=>lZ n s key k a [(3,.own 3),(53,.own 3),(54,.aA 5 0),(55,.pd (S a.name)),(56,.pd (.list 1 [S a.name])),(58,.aA 5 2),(59,.pd (strs a.was))] (A.map S)
 |127=>lZ n s key k a [(54,.aA 5 0),(55,.pd (S a.name)),(56,.pd (.list 1 [S a.name])),(57,.own 3),(58,.aA 5 2),(59,.pd (strs a.was))] (A.map S++[S a.name])
 |255=>lZ n s key k a [(54,.aA 5 0),(55,.pd (S a.name)),(56,.pd (.list 1 [S a.name])),(58,.aA 5 2),(59,.pd (strs a.was)),(60,.own 3)] (A.map S++[S a.name]++a.was.map S)
 |511=>lZ n s key k a [(3,.own 3),(54,.aA 5 0),(55,.pd (S a.name)),(56,.pd (.list 1 [S a.name])),(58,.aA 5 2),(59,.pd (strs a.was)),(60,.own 3)] (A.map S++[S a.name]++a.was.map S)
 |_=>⟨0,[],[],[],[],[]⟩
def es9:List (Nat×Nat):=[(0,0),(0,1),(0,5),(1,1),(1,5),(2,0),(2,2),(2,5),(32,0),(32,1),(32,6),(3,2),(3,5),(33,1),(33,6),(6,0),(6,3),(6,5),(34,0),(34,2),(34,6),(96,0),(96,1),(7,3),(7,5),(35,2),(35,6),(97,1),(14,0),(14,5),(38,0),(38,3),(38,6),(98,0),(98,2),(15,4),(15,5),(39,3),(39,6),(99,2),(46,0),(46,6),(102,0),(102,3),(31,5),(47,4),(47,6),(103,3),(110,0),(63,6),(111,4),(127,7),(255,8)]
def Qd(t:dO)(hb:Cc t):bg aa 152 [.pd (D7 t)] [B (ni t)]:=by
 obtain⟨n,b,key⟩:=t;obtain⟨hn,hal,hkl,X⟩:=hb;simp only at hn hal hkl X;refine bg.mk Tryz.func152 λw G=>?_
 (refine jW (cs:=[(10,.of (Yp n qk))]) 80 _ _ ?_;simp only [go_sem])
 refine⟨λh=>?_,λh=>?_⟩
 ·have E:ni ⟨n,b,key⟩=false:=by
   unfold ni
   by_cases f:pz n=true
   ·by_cases q:b.length=0
    ·rw [d8.1 q];simp
    ·by_cases g:b.length<=12
     ·have hkk:key=[]:=by
       have z:((b.length:Int)==0)=false:=v8;have e:decide ((b.length:Int)>12)=false:=qz;rw [f,z,e]at h;simp at h;exact h
      rw [hkk];simp
     ·simp [g]
   ·simp [f]
  refine ac ?_;refine R.rW ?_;rw [E];rfl
 have QP:pz n=true/\b.length≠0/\b.length<=12/\key.length≠0:=by
  by_cases f:pz n=true
  ·by_cases q:b.length=0
   ·rw [f,q]at h;simp at h
   ·by_cases g:b.length<=12
    ·have z:((b.length:Int)==0)=false:=v8
     have e:decide ((b.length:Int)>12)=false:=qz;rw [f,z,e]at h;exact⟨f,q,g,uu h⟩
    ·have z:((b.length:Int)==0)=false:=v8
     have e:decide ((b.length:Int)>12)=true:=qz;rw [f,z,e]at h;simp at h
  ·have:pz n=false:=uu f
   rw [this]at h;simp at h
 obtain⟨f,hne,g,hke⟩:=QP;clear h;refine ac ?_;refine R.mV 3 3 9 1 qn rfl rfl ?_;simp only [go_sem];refine ac ?_;refine R.fU (λ(k:Nat) s=>St.lp [1,6,7,31,32,62,63,64,66,67,68,69,70,71,72,73,74,75,76,77,78,79,80,81,82,83,84,85,86,87,88,89,90,91,92,93,94,95,96,97,98,99,100,101,102,103] [(33,.pd (I k)),(3,.own 3)] [1] [] [] [(3,⟨9,1,(jP (b.take k)).map S⟩)] s) (λ(k:Nat)=>k<=b.length/\(b.take k).all yM=true) (λ(k:Nat)=>b.length-k) (0) (⟨qk,qr⟩) ?_;rintro k ⟨hk,H⟩;refine ai ?_;refine⟨λh=>?_,λh=>?_⟩
 ·have hlt:k<b.length:=uu h
  have N:=X b[k] (am hlt);refine z7 hlt ?_;refine R.zJ (rs:=[B (Dn b[k].kind b[k].dflt)]) rfl rfl rfl rfl (λhw=>⟨vu,zc zd,s5 b[k].kind b[k].dflt⟩) ke qn ?_;refine ai ?_;refine⟨λe=>?_,λe=>?_⟩
  ·have U:yM b[k]=false:=by
    unfold yM
    by_cases K:b[k].kind<1
    ·have:¬1<=b[k].kind:=qk
     simp [this]
    ·by_cases J:b[k].kind>4
     ·have:¬b[k].kind<=4:=qk
      simp [this]
     ·rw [b7 K,b7 J]at e
      simp at e;simp [e]
   have E:ni ⟨n,b,key⟩=false:=by
    have:b.all yM=false:=by
     rw [fm];exact⟨b[k],am hlt,by simp [U]⟩
    unfold ni;simp [this]
   refine ac ?_;refine R.rW ?_;rw [E];rfl
  have m:yM b[k]=true:=by
   unfold yM
   by_cases K:b[k].kind<1
   ·rw [bL K]at e;simp at e
   ·by_cases J:b[k].kind>4
    ·rw [bL J]at e;simp at e
    ·rw [b7 K,b7 J]at e
     have o:1<=b[k].kind:=qk;have h4:b[k].kind<=4:=qk;simp at e;simp [e,o,h4]
  refine ai ?_
  have Z:(jP (b.take k)).length<=100000000:=by
   have z:=Vq (l:=b.take k) (λx C=>X x (lv C));rw [fb]at z;have:min k b.length<=12:=qk;have:=c9 2000001 this;omega
  have D:jP (b.take (k+1))=jP (b.take k)++[b[k].name]++b[k].was:=by rw [bh hlt,EE]
  have Q:(b.take (k+1)).all yM=true:=by rw [bh hlt,gn,H];simp [m]
  have hwl:=N.2.1;clear m e N H;generalize b[k]=a at D hwl;generalize jP (b.take k)=A at Z D;refine R.to (T9 n b key k a A 0) (by simp only [T9.eq_1];(simp only [go_sem]);all_goals(and_intros<;>rfl)) ?_;refine R.tD (T9 n b key k a A) es9 511 mixed qq qq qq (λh=>h) ?_ ?_
  ·unfold es9
   repeat' (refine cT.2 ⟨?_,?_⟩)
   all_goals first
    |exact pZ _
    |(simp only [T9,Nat.reduceOr,Nat.reducePow]
      refine ac ?_;exact R.eE rfl)
    |(simp only [T9,Nat.reduceOr,Nat.reducePow]
      refine ac ?_
      first
       |refine R.iy (r:=⟨9,1,A.map S⟩) (d:=S a.name) 1000000000 16 rfl rfl qn rfl rfl rfl rfl yA rfl NV qr (congrArg (bB aR) QZ) rfl QY qz qu qu ?_
       |refine R.append (r:=⟨9,1,A.map S++[S a.name]⟩) (es:=a.was.map S) rfl rfl (ah qn) rfl rfl rfl rfl yA rfl NV qr (congrArg (bB aR) QZ) rfl (λi hi=>xt) (by show _*iQ aa 9<=_;rw [QY];simp;omega) kb ?_
      refine ac ?_;exact R.eE rfl)
  ·simp only [T9.eq_29]
   apply ev8;simp only [go_sem,wrapN (k:=k) qk];refine R.fE (k+1) ⟨qk,Q⟩ (l:=by(simp only [go_sem,D,bl,ap,ax]);all_goals(and_intros<;>first|rfl))
 ·have T:¬k<b.length:=uu h
  rw [bi qk]at H;have v:b.take k=b:=bi qk
  have Z:(jP b).length<=100000000:=by
   have z:=Vq X;have:=c9 2000001 g;omega
  refine z5 v ?_;refine R.kC (Fh (jP b) (λs=>!pz s)) rfl rfl (.cons (.own 3 ⟨9,1,(jP b).map S⟩ rfl) (.cons (Co.func 250 _ CN (by rintro es r ⟨x,C,rfl,rfl⟩;exact De x (by have:=EQ X C;omega))) (.nil))) ?_;refine ac ?_;refine⟨λe=>?_,λe=>?_⟩
  ·have E:ni ⟨n,b,key⟩=false:=by
    have:(jP b).all pz=false:=by
     simp only [gk]at e;obtain⟨x,C,hx2⟩:=e;rw [fm];exact⟨x,C,uu hx2⟩
    unfold ni;simp [this]
   refine ac ?_;refine R.rW ?_;rw [E];rfl
  have O:(jP b).all pz=true:=by
   simp only [eW]at e;rw [aM];intro x C;simpa using e x C
  refine ac ?_;simp only [Ff];refine R.TY (enc:=encStr) VV (λ_=>rfl) ((jP b).map bytes) rfl rfl qn rfl rfl qz ?_
  (refine aJ 6 _ _ ?_;simp only [go_sem])
  refine R.SR 3 qn rfl rfl λp cap=>?_;simp only [go_sem];refine R.Vf (enc:=encStr) asI (λ_=>rfl) (Qc ((jP b).map bytes)) rfl rfl qn rfl rfl rfl qz ?_;apply ev8;simp only [go_sem,eH,gA];refine⟨λo=>?_,λo=>?_⟩
  ·have o:(cR (Qc ((jP b).map bytes))).length<(jP b).length:=by
    have:=fN o;omega
   have E:ni ⟨n,b,key⟩=false:=by
    have:=(Rf (jP b)).1 o;unfold ni;simp [this]
   refine ac ?_;refine R.rW ?_;rw [E];rfl
  have P:(jP b).Nodup:=by
   have o:¬(cR (Qc ((jP b).map bytes))).length<(jP b).length:=by
    have:=of_decide_eq_false o;omega
   rw [Rf]at o;exact Classical.not_not.1 o
  have u:ni ⟨n,b,key⟩=keysB b.length none key:=by
   unfold ni;have e1:b.isEmpty=false:=by cases b with|nil=>simp at hne|cons _ _=>rfl
   have e2:key.isEmpty=false:=by cases key with|nil=>simp at hke|cons _ _=>rfl
   simp [f,e1,e2,g,H,O,P]
  clear e o H O P v T h hk;rw [u];refine ac ?_;refine R.fU (λ(k:Nat) s=>St.lp [1,73,74] [(75,.pd (I k))] [1,5] [] [] [] s) (λ(k:Nat)=>k<=key.length/\keysB b.length none key=keysB b.length (if k=0 then none else some (key.getD (k-1) 0)) (key.drop k)) (λ(k:Nat)=>key.length-k) (0) (⟨qk,qr⟩) ?_;rintro k ⟨hk,H⟩;refine ai ?_;refine⟨λh=>?_,λh=>?_⟩
  ·have hlt:k<key.length:=uu h
   rw [drop_cons hlt,ZG]at H;have hgk:key.getD k 0=key[k]:=yo
   by_cases K:key[k]<0
   ·have L:keysB b.length none key=false:=by
     rw [H];have:¬0<=key[k]:=qk;simp [this]
    rw [L];apply aj;simp only [go_sem,↓reduceIte,getD_map,hlt,K];repeat refine⟨qk,?_⟩
    refine R.rW ?_;rfl
   have d1:decide (key[k]<0)=false:=b7 K
   by_cases J:key[k]>=(b.length:Int)
   ·have L:keysB b.length none key=false:=by
     rw [H];have:¬key[k]<(b.length:Int):=qk;simp [this]
    rw [L];refine z9 hlt d1 J ?_;refine R.rW ?_;rfl
   have d2:decide (key[k]>=(b.length:Int))=false:=b7 J;have M:0<=key[k]:=qk;have hup:key[k]<(b.length:Int):=qk;rw [bL M,bL hup]at H
   by_cases c3:k=0
   ·subst c3
    have d3:decide (((0:Nat):Int)>0)=false:=qu;apply aj;simp only [go_sem,↓reduceIte,getD_map,hlt,d1,d2,d3,wrapN (k:=0) qk];repeat refine⟨qk,?_⟩
    refine R.fE (0+1) ⟨qk,by rw [H];simp [hlt]⟩
   obtain⟨j,rfl⟩:∃j,k=j+1:=⟨k-1,qk⟩;have hj:j<key.length:=qk;have d3:decide (((j+1:Nat):Int)>0)=true:=by apply bL;omega
   have hw:IntKind.i64.wrap (((j+1:Nat):Int)-1)=(j:Int):=q8;have hgj:key.getD j 0=key[j]:=j5;simp only [lc,hgj,ae (Nat.succ_ne_zero j)]at H
   by_cases c4:key[j+1]<=key[j]
   ·have L:keysB b.length none key=false:=by
     rw [H];have:¬key[j]<key[j+1]:=qk;simp [this]
    rw [L];have d4:decide (key[j+1]<=key[j])=true:=bL c4;apply aj;simp only [go_sem,↓reduceIte,getD_map,hlt,hj,d1,d2,d3,hw,d4];repeat refine⟨qk,?_⟩
    refine R.rW ?_;rfl
   ·have d4:decide (key[j+1]<=key[j])=false:=b7 c4
    have h5:key[j]<key[j+1]:=qk;rw [bL h5]at H;apply aj;simp only [go_sem,↓reduceIte,getD_map,hlt,hj,d1,d2,d3,hw,d4,wrapN (k:=j+1) qk];repeat refine⟨qk,?_⟩
    refine R.fE (j+1+1) ⟨qk,by rw [H];simp [hlt]⟩
  ·have T:¬k<key.length:=uu h
   rw [cC qk,C6]at H;rw [H];refine ac ?_;refine R.rW ?_;rfl
def sJ(l:List dO)(p:dO×Nat):Bool:=ni p.1&&decide (jC (λt=>eqS t.name p.1.name) l=(p.2:Int))
def sK(l:List dO):Bool:=decide (l.length<=20)&&(l.zipIdx).all (sJ l)
def Qe(l:List dO)(n:∀t∈l,Cc t):bg aa 103 [.pd (schema l)] [B (sK l)]:=by
 refine bg.mk Tryz.func103 λw G=>?_;refine ai ?_;refine⟨λh=>?_,λh=>?_⟩
 ·have h:¬l.length<=20:=by have:=fN h;omega
  have f:sK l=false:=by unfold sK;simp [h]
  refine ac ?_;refine R.rW ?_;rw [f];rfl
 have i:l.length<=20:=by have:=of_decide_eq_false h;omega
 clear h;refine ai ?_;refine R.fU (λ(k:Nat) s=>St.lp [1,10] [(11,.pd (I k))] [1] [] [] [] s) (λ(k:Nat)=>k<=l.length/\((l.take k).zipIdx).all (sJ l)=true) (λ(k:Nat)=>l.length-k) (0) (⟨qk,qr⟩) ?_;rintro k ⟨o,v⟩;refine ai ?_;refine⟨λh=>?_,λh=>?_⟩
 ·have H:k<l.length:=uu h
  have g:=n l[k] (am H);refine ai ?_;refine R.dA 17 80 mixed qv ?_;simp only [go_sem,getD_map,H];repeat refine⟨qk,?_⟩
  refine RY.kW (Qd l[k] g) rfl rfl zd ?_
  (refine bY 80 _ _ ?_;simp only [go_sem,getD_map,H]);repeat refine⟨qk,?_⟩
  refine RY.zJ (rs:=[I (jC (λt:dO=>eqS t.name l[k].name) l)]) rfl rfl rfl rfl (λ_=>⟨vu,zc zd,find_ok l l[k].name⟩) ke qn ?_;refine z6 ?_;refine ai ?_
  have e:((l.take (k+1)).zipIdx).all (sJ l)=sJ l (l[k],k):=by
   rw [bh H,qT,gn,v];have:(l.take k).length=k:=qz;simp [this]
  refine⟨λa=>?_,λa=>?_⟩
  ·have b:sJ l (l[k],k)=false:=by
    unfold sJ
    cases r:ni l[k]with
    |false=>simp []
    |true=>rw [r]at a;simp at a;simp [a]
   have f:sK l=false:=by
    have:(l.zipIdx).all (sJ l)=false:=by
     rw [fm];exact⟨(l[k],k),by rw [p5];simp [H],by simp [b]⟩
    unfold sK;simp [this]
   refine ac ?_;refine R.rW ?_;rw [f];rfl
  ·have d:sJ l (l[k],k)=true:=by
    unfold sJ
    cases r:ni l[k]with
    |false=>rw [r]at a;simp at a
    |true=>rw [r]at a;simp at a;simp [a]
   apply aI;simp only [go_sem,wrapN (k:=k) qk];refine R.fE (k+1) ⟨qk,by rw [e,d]⟩
 ·have m:¬k<l.length:=uu h
  rw [bi qk]at v;have j:sK l=true:=by unfold sK;simp [i,v]
  refine ac ?_;refine R.rW ?_;rw [j];rfl
def JD(r:Option (List Attr)):List Attr:=r.getD []
def Kc(l:List Attr)(cols:List Int)(r:cols.length<=1000000000)(u:l.length<=9223372036854775807):FnP aa 270 [.pd (attrs l),.pd (ints cols)] ⟨114,6,(JD (fC l cols)).map attr⟩ (B (fC l cols).isSome):=by
 refine FnP.mk Tryz.func270 λw G=>?_;refine ac ?_;refine R.mV 6 6 114 6 qn rfl rfl ?_;simp only [go_sem];refine ac ?_;refine R.fU (λ(k:Nat×List Attr) s=>St.lp [0,9,10,31] [(11,.pd (I k.1)),(6,.own 6)] [] [] [] [(6,⟨114,6,k.2.map attr⟩)] s) (λ(k:Nat×List Attr)=>k.1<=cols.length/\fC l (cols.take k.1)=some k.2) (λ(k:Nat×List Attr)=>cols.length-k.1) ((0,[])) (⟨ui,by simp [fC]⟩) ?_;rintro⟨k,o⟩ ⟨j,H⟩;have j:k<=cols.length:=j;have H:fC l (cols.take k)=some o:=H;have f:=yL _ _ _ H;rw [fb]at f;refine ac ?_;refine⟨λh=>?_,λh=>?_⟩
 ·have b:k<cols.length:=uu h
  have n:=Fp l cols[k] _ _ H;rw [<-bh b]at n;refine z7 b ?_;refine⟨λi=>?_,λi=>?_⟩
  ·have g:¬(0<=cols[k]/\cols[k].toNat<l.length):=by
    split at i<;>simp at* <;>omega
   have d:fC l cols=none:=by
    have e:=cK k cols;rw [drop_cons b]at e;rw [<-e];exact Fq l _ g _ _
   rw [d];refine ac ?_;refine R.mV 4 9 114 6 qn rfl rfl ?_;simp only [go_sem];exact R.Ye rfl rfl rfl rfl
  ·have a:0<=cols[k]/\cols[k].toNat<l.length:=by
    split at i<;>simp at* <;>omega
   have t:((cols[k].toNat:Nat):Int)=cols[k]:=iz a.1;rw [dc a]at n;generalize cols[k].toNat=q at t a n;rw [<-t];have m:=a.2;refine z7 m ?_;refine R.iy 1000000000 80 rfl rfl qn rfl rfl rfl rfl wF rfl wG qr (congrArg (bB aR) wH) rfl yB qz qu qu ?_;apply ev8;simp only [go_sem,wrapN (k:=k) qk];refine R.fE (k+1,o++[l[q]]) ⟨yz,n⟩ (hm:=vj) (l:=by(simp only [go_sem,bl]);all_goals(and_intros<;>first|rfl))
 ·have p:¬k<cols.length:=uu h
  rw [bi qk]at H;rw [H];refine ac ?_;exact R.Ye rfl rfl rfl rfl
def kV(n:ByteArray)(kind:Int):Attr:=⟨n,kind,[],V.zero⟩
def pF(p q:Plan):Option (List Attr×Bool):=match fC q.attrs p.cols with
 |none=>none
 |some o=>if p.attrs.length≠o.length+1\/p.agg<1\/4<p.agg then none else
  let n:=(p.attrs.map (·.name)).getD o.length cS
  if p.agg=1 then some (o++[kV n 2],decide (p.col= -1))
  else if p.col<0\/(q.attrs.length:Int)<=p.col then some (o++[kV n 2],false)
  else if p.agg=2 then some (o++[kV n 2],(q.attrs.map (·.kind)).getD p.col.toNat 0==2)
  else some (o++[kV n ((q.attrs.map (·.kind)).getD p.col.toNat 0)],true)
def Qg(r:Option (List Attr×Bool)):List PD:=match r with|some (l,b)=>[attrs l,B b]|none=>[NIL,B false]
def Ec(n:ByteArray)(kind:Int):DW (.list 6 [.ak [S n,I kind,NIL,I 0,I 0,S cS]]) (.list 6 [attr (kV n kind)]):=
 .list 6 rfl (λi h=>by
  have:i=0:=uu h;subst this;exact⟨_,_,rfl,rfl,.cons (.same _) (.cons (.same _) (.cons (.nil 1) (.cons (.same _) (.cons (.same _) (.cons (.same _) .nil)))))⟩)
def Kd(p q:Plan)(tl:List dO)(L:p.kids=[q])(N:q.attrs.length<=100000000)(M:p.cols.length<=100000000):bg aa 174 [.pd (nP p tl)] (Qg (pF p q)):=by
 refine bg.mk Tryz.func174 λw G=>?_;simp only [nP,L];apply aI;simp only [go_sem,cW,bC q];repeat refine⟨qk,?_⟩
 refine R.Hi xp 5 xp rfl rfl rfl rfl rfl rfl rfl rfl rfl rfl rfl rfl qn qu ze (Kc q.attrs p.cols qk qk) ?_
 cases f:fC q.attrs p.cols with
 |none=>
  have H:pF p q=none:=by unfold pF;rw [f]
  simp only [AT];rw [H];refine ar ?_;refine R.rW ?_;rfl
 |some o=>
  have K:=yL _ _ _ f;simp only [AS,JD,Option.getD_some]
  by_cases v:p.attrs.length≠o.length+1
  ·have H:pF p q=none:=by unfold pF;rw [f];simp [v]
   have e:((p.attrs.length:Int) !=((o.length+1:Nat):Int))=true:=by simp only [iX,ne_eq];omega
   rw [H];apply aj;simp only [go_sem,↓reduceIte,wrapN (k:=o.length) qk,e];refine R.rW ?_;rfl
  have v:p.attrs.length=o.length+1:=Classical.not_not.1 v;have e:((p.attrs.length:Int) !=((o.length+1:Nat):Int))=false:=by simp only [bne_eq_false_iff_eq];omega
  by_cases u:p.agg<1
  ·have H:pF p q=none:=by unfold pF;rw [f];simp [u]
   have E:decide (p.agg<1)=true:=bL u;rw [H];apply aj;simp only [go_sem,↓reduceIte,wrapN (k:=o.length) qk,e,E];refine R.rW ?_;rfl
  have E:decide (p.agg<1)=false:=b7 u
  by_cases C:p.agg>4
  ·have H:pF p q=none:=by unfold pF;rw [f];simp [C]
   have b:decide (p.agg>4)=true:=bL C;rw [H];apply aj;simp only [go_sem,↓reduceIte,wrapN (k:=o.length) qk,e,E,b];refine R.rW ?_;rfl
  have b:decide (p.agg>4)=false:=b7 C;have t:o.length<p.attrs.length:=qk;have m:(p.attrs.map (·.name)).getD o.length cS=p.attrs[o.length].name:=by simp [t]
  have h:pF p q=if p.agg=1 then some (o++[kV p.attrs[o.length].name 2],decide (p.col= -1))
    else if p.col<0\/(q.attrs.length:Int)<=p.col then some (o++[kV p.attrs[o.length].name 2],false)
    else if p.agg=2 then some (o++[kV p.attrs[o.length].name 2],(q.attrs.map (·.kind)).getD p.col.toNat 0==2)
    else some (o++[kV p.attrs[o.length].name ((q.attrs.map (·.kind)).getD p.col.toNat 0)],true):=by
   unfold pF;rw [f];simp only [m];rw [ae qk]
  by_cases j:p.agg=1
  ·have H:pF p q=some (o++[kV p.attrs[o.length].name 2],decide (p.col= -1)):=by rw [h,af j]
   have g:(p.agg==1)=true:=by simp [j]
   apply aj;simp only [go_sem,↓reduceIte,wrapN (k:=o.length) qk,e,E,b,getD_map,t,g];repeat refine⟨qk,?_⟩
   refine R.up 100 qn rfl (Ec _ _) ?_;simp only [go_sem];refine R.iy (d:=attr (kV p.attrs[o.length].name 2)) 1000000000 80 rfl rfl qn rfl rfl rfl rfl wF rfl wG qr (congrArg (bB aR) wH) rfl yB qz qu qu ?_;refine ac ?_;refine R.dI 5 rfl rfl ?_;simp only [go_sem];refine R.rW ?_;rw [H];simp only [Qg,attrs,bl,ap,ax];rfl
  have g:(p.agg==1)=false:=by simp [j]
  rw [ae j]at h
  by_cases i:p.col<0
  ·have H:pF p q=some (o++[kV p.attrs[o.length].name 2],false):=by rw [h,af (.inl i)]
   have s:decide (p.col<0)=true:=bL i;apply aj;simp only [go_sem,↓reduceIte,wrapN (k:=o.length) qk,e,E,b,getD_map,t,g,s];repeat refine⟨qk,?_⟩
   refine ar ?_
   repeat refine⟨qk,?_⟩
   refine R.up 100 qn rfl (Ec _ _) ?_;simp only [go_sem];refine R.iy (d:=attr (kV p.attrs[o.length].name 2)) 1000000000 80 rfl rfl qn rfl rfl rfl rfl wF rfl wG qr (congrArg (bB aR) wH) rfl yB qz qu qu ?_;refine ac ?_;refine R.dI 5 rfl rfl ?_;simp only [go_sem];refine R.rW ?_;rw [H];simp only [Qg,attrs,bl,ap,ax];rfl
  have s:decide (p.col<0)=false:=b7 i
  by_cases x:p.col>=(q.attrs.length:Int)
  ·have H:pF p q=some (o++[kV p.attrs[o.length].name 2],false):=by rw [h,af (.inr x)]
   have J:decide (p.col>=(q.attrs.length:Int))=true:=bL x;apply aj;simp only [go_sem,↓reduceIte,wrapN (k:=o.length) qk,e,E,b,getD_map,t,g,s,J];repeat refine⟨qk,?_⟩
   refine ar ?_
   repeat refine⟨qk,?_⟩
   refine R.up 100 qn rfl (Ec _ _) ?_;simp only [go_sem];refine R.iy (d:=attr (kV p.attrs[o.length].name 2)) 1000000000 80 rfl rfl qn rfl rfl rfl rfl wF rfl wG qr (congrArg (bB aR) wH) rfl yB qz qu qu ?_;refine ac ?_;refine R.dI 5 rfl rfl ?_;simp only [go_sem];refine R.rW ?_;rw [H];simp only [Qg,attrs,bl,ap,ax];rfl
  have J:decide (p.col>=(q.attrs.length:Int))=false:=b7 x;rw [ae qk]at h;obtain⟨c,a⟩:=m9 (Int.not_lt.1 i);have l:c<q.attrs.length:=qk;have n:(q.attrs.map (·.kind)).getD p.col.toNat 0=q.attrs[c].kind:=by rw [a];simp [l]
  rw [n]at h;have D:decide ((c:Int)<0)=false:=by apply b7;omega
  have z:decide ((c:Int)>=(q.attrs.length:Int))=false:=by apply b7;omega
  by_cases A:p.agg=2
  ·have H:pF p q=some (o++[kV p.attrs[o.length].name 2],q.attrs[c].kind==2):=by rw [h,af A]
   have r:(p.agg==2)=true:=by simp [A]
   apply aj;simp only [go_sem,↓reduceIte,wrapN (k:=o.length) qk,e,E,b,getD_map,t,g,D,z,a];repeat refine⟨qk,?_⟩
   apply aj;simp only [go_sem,↓reduceIte,getD_map,r,l];repeat refine⟨qk,?_⟩
   refine R.up 100 qn rfl (Ec _ _) ?_;simp only [go_sem];refine R.iy (d:=attr (kV p.attrs[o.length].name 2)) 1000000000 80 rfl rfl qn rfl rfl rfl rfl wF rfl wG qr (congrArg (bB aR) wH) rfl yB qz qu qu ?_;refine ac ?_;refine R.dI 5 rfl rfl ?_;simp only [go_sem];refine R.rW ?_;rw [H];simp only [Qg,attrs,bl,ap,ax];rfl
  ·have H:pF p q=some (o++[kV p.attrs[o.length].name q.attrs[c].kind],true):=by rw [h,ae A]
   have r:(p.agg==2)=false:=by simp [A]
   apply aj;simp only [go_sem,↓reduceIte,wrapN (k:=o.length) qk,e,E,b,getD_map,t,g,D,z,a];repeat refine⟨qk,?_⟩
   apply aj;simp only [go_sem,↓reduceIte,getD_map,r,l];repeat refine⟨qk,?_⟩
   refine R.up 100 qn rfl (Ec _ _) ?_;simp only [go_sem];refine R.iy (d:=attr (kV p.attrs[o.length].name q.attrs[c].kind)) 1000000000 80 rfl rfl qn rfl rfl rfl rfl wF rfl wG qr (congrArg (bB aR) wH) rfl yB qz qu qu ?_;refine ac ?_;refine R.dI 5 rfl rfl ?_;simp only [go_sem];refine R.rW ?_;rw [H];simp only [Qg,attrs,bl,ap,ax];rfl
end Go.Proofs.Z
namespace Go.au
variable {args:List SV}
def bg.toM{P:Program}{f:FuncId}{rs:List PD}(h:bg P f args rs):fV P f args [] [] (λres M=>res= .ret rs/\M=[]):=by
 refine⟨h.1,λw G vals d s i _=>(h.2 w G vals d s i).mono ?_⟩;rintro e g ⟨v,rfl,j,a⟩;refine⟨.ret rs,[],behind w g G,⟨rfl,rfl⟩,λb o h=>.inl h,λb o h=>?_,λb o h=>?_,Kept.GY a (λh=>xa),⟨v,rfl,G6 (l:=false) (w:=w) qr (λ_ b o h=>?_) j⟩,λr m h=>xc,λr m h=>xc⟩
 ·rcases h with h|h
  ·exact .inl h
  ·exact .inr h.1
 ·rcases h with h|h
  ·exact cj (d.lt b o h) a.size
  ·exact h.2
 ·rcases h.1 with H|H
  ·exact .inl H
  ·exact .inr ⟨H,h.2⟩
def aG.up{P:Program}{f:FuncId}{d D:PD}(h:aG P f args [d])(u:DW d D):aG P f args [D]:=
 ⟨h.1,λw G vals a s H=>(h.2 w G vals a s H).mono λ_ _ ⟨v,e,r,b⟩=>⟨v,e,u.rd r,b⟩⟩
end Go.au
namespace Go.Proofs.Z
open Go.au
variable {args:List SV}
abbrev KM:PD:=.mp (kQ.map (·.1)) (kQ.map (·.2))
def Ii(k:Int):Option Nat:=if k=1 then some 0 else if k=2 then some 1 else if k=3 then some 1 else if k=4 then some 2 else if k=5 then some 2 else if k=6 then some 2 else if k=7 then some 1 else if k=8 then some 1 else none
def jT(p:Plan):Plan:=.mk p.kind (if p.kind=1 then 0 else p.table) p.kids (if p.kind=2 then []else p.tests) (if p.kind=3\/p.kind=8 then []else p.cols) (if p.kind=7\/p.kind=8 then 0 else p.col) (if p.kind=8 then 0 else p.agg) p.attrs
def Ob(p:Plan):Bool:=decide (p.table=0)&&p.tests.isEmpty&&p.cols.isEmpty&&decide (p.col=0)&&decide (p.agg=0)
def Ed(l:List Attr):Bool:=(l.zipIdx).all λq=>decide (mF l q.1.name=(q.2:Int))
def AU(l:List Attr)(b:Bool):Option (List Attr):=if b then some l else none
def jD(tl:List dO)(p:Plan):Option (List Attr):=
 if p.kind=1 then vC p tl else match p.kids with
 | [q]=>if p.kind=2 then AU q.attrs (Ie p q)else if p.kind=3 then fC q.attrs p.cols else if p.kind=7 then vw p q else if p.kind=8 then(match pF p q with|some (l,true)=>some l|_=>none)else none
 | [q,r]=>if p.kind=4 then nR q.attrs q.attrs r.attrs else if p.kind=5\/p.kind=6 then AU q.attrs (oz q.attrs r.attrs)else none
 |_=>none
def bP:Nat->List dO->Plan->Bool
 |0,_,_=>false
 |n+1,tl,p=>decide (Ii p.kind=some p.kids.length)&&p.kids.all (bP n tl)&&Ob (jT p)&&Ed p.attrs&&(match jD tl p with|some l=>oz l p.attrs|none=>false)
mutual
def qW:Plan->Prop
 | .mk _ _ kids tests cols _ _ a=>a.length<=100000000/\cols.length<=100000000/\tests.length<=100000000/\kids.length<=100000000/\Fz kids
def Fz:List Plan->Prop
 | []=>True
 |p::l=>qW p/\Fz l
end
def FB:∀{l:List Plan},Fz l->∀p∈l,qW p
 | [],_,p,h=>xy
 |q::l,h,p,H=>by
  simp only [Fz]at h;rcases b8.1 H with rfl|H
  ·exact h.1
  ·exact FB h.2 p H
def mM(p:Plan):qW p↔p.attrs.length<=100000000/\p.cols.length<=100000000/\p.tests.length<=100000000/\p.kids.length<=100000000/\Fz p.kids:=by cases p;simp only [qW];exact Iff.rfl
def QQ(a b c d e:Bool):(if(if(if(if a=true then true else b)=true then true else c)=true then true else d)=true then true else e)=(a||b||c||d||e):=by
 cases a<;>cases b<;>cases c<;>cases d<;>cases e<;>rfl
def Vr(r:Plan):((r.table !=0)||decide ((r.tests.length:Int)>0)||decide ((r.cols.length:Int)>0)||(r.col !=0)||(r.agg !=0))=!Ob r:=by
 have H:decide ((r.tests.length:Int)>0)=!r.tests.isEmpty:=by cases r.tests<;>simp
 have h:decide ((r.cols.length:Int)>0)=!r.cols.isEmpty:=by cases r.cols<;>simp
 rw [H,h];unfold Ob
 by_cases a:r.table=0<;>by_cases b:r.col=0<;>by_cases c:r.agg=0<;>simp [a,b,c,bne]
structure Entry(tl:List dO)(p:Plan)(kn fc fr ft:Nat):Prop where
 look:rU aa 265 (.int .i64) (key p.kind) (kQ.map (·.1)) (kQ.map (·.2)) true (.ak [I kn,F fc,F fr,F ft])
 num:Ii p.kind=some kn
 rest:aG aa ft [.pd (plan p)] [plan (jT p)]
 cols:p.kids.length=kn->fV aa fc [.pd (nP p tl)] [] [] (λres M'=>M'=[]/\∃x,res= .ret [x,B (jD tl p).isSome]/\∀l,jD tl p=some l->x=attrs l)
def ny(tl:List dO)(p:Plan)(n K fc fr M:Nat)(hn:n<=1000)(U:qW p)(e:Entry tl p K fc fr M)(D:0<n->∀q∈p.kids,bg aa 104 [.pd (schema tl),.pd KM,.pd (plan q),.pd (I ((n-1:Nat):Int))] [B (bP (n-1) tl q)]):
  bg aa 104 [.pd (schema tl),.pd KM,.pd (plan p),.pd (I (n:Int))] [B (bP n tl p)]:=by
 obtain⟨ha,hc,ht,hk,X⟩:=(mM p).1 U;rw [bC p];refine bg.mk Tryz.func104 λw G=>?_;refine ai ?_;refine R.y rfl (ah qn) (.look 193 _ _ true _ _ _ _ _ _ _ rfl rfl rfl wI true e.look) ?_;refine ai ?_;refine⟨λh=>?_,λh=>?_⟩
 ·have g:bP n tl p=false:=by
   cases n with
   |zero=>rfl
   |succ m=>
    have J:((((m+1:Nat):Int))==0)=false:=v8;rw [J]at h;have H:¬((p.kids.length:Int)=(K:Int)):=uu h;have H:p.kids.length≠K:=qk;have:Ii p.kind≠some p.kids.length:=by rw [e.num];simp;omega
    simp [bP,this]
  refine ac ?_;refine R.rW ?_;rw [g];rfl
 obtain⟨m,rfl⟩:∃m,n=m+1:=by
  cases n with
  |zero=>simp at h
  |succ m=>exact⟨m,rfl⟩
 have u:p.kids.length=K:=by
  have J:((((m+1:Nat):Int))==0)=false:=v8;rw [J]at h;have H:(p.kids.length:Int)=(K:Int):=uu h;omega
 have o:decide (Ii p.kind=some p.kids.length)=true:=by rw [e.num,u];simp
 have Q:IntKind.i64.wrap (((m+1:Nat):Int)-1)=(m:Int):=q8;clear h;simp only [lc]at D;have D:=D (Nat.succ_pos m);refine ai ?_;refine R.fU (λ(k:Nat) s=>St.lp [1,3,4,6,9,10,13,14,15,16,39,40,53,54,55,56,57,58,59,60,61,62,63,64,65,66,67,68,69,70,71,72,73,74,75,76,77,78,79,80,81,82,83,84,85,86,87,88,89,90,91,92,93,94,95,96,97,98,99,100,101,102,103,104,105,106,107,108,109,110,111,112,113] [(41,.pd (I k))] [4,6,9,13,15] [] [] [] s) (λ(k:Nat)=>k<=p.kids.length/\(p.kids.take k).all (bP m tl)=true) (λ(k:Nat)=>p.kids.length-k) (0) (⟨qk,qr⟩) ?_;rintro k ⟨z,v⟩;refine ai ?_;refine⟨λh=>?_,λh=>?_⟩
 ·have t:k<p.kids.length:=uu h
  have j:=D p.kids[k] (am t);rw [bC]at j;have d:(p.kids.take (k+1)).all (bP m tl)=bP m tl p.kids[k]:=by rw [bh t,gn,v];simp
  apply aI;simp only [go_sem,getD_map,t,bC p.kids[k],Q];repeat refine⟨qk,?_⟩
  refine R.kW (j) rfl rfl zj ?_;refine ai ?_;refine⟨λH=>?_,λH=>?_⟩
  ·have C:bP m tl p.kids[k]=false:=uu H
   have g:bP (m+1) tl p=false:=by
    have:p.kids.all (bP m tl)=false:=by
     rw [fm];exact⟨p.kids[k],am t,by simp [C]⟩
    simp [bP,this]
   refine ac ?_;refine R.rW ?_;rw [g];rfl
  ·have f:bP m tl p.kids[k]=true:=uu H
   apply aI;simp only [go_sem,wrapN (k:=k) qk];refine R.fE (k+1) ⟨qk,by rw [d,f]⟩
 have A:¬k<p.kids.length:=uu h;rw [bi qk]at v;have a:=e.rest;rw [bC p]at a;refine ai ?_;refine R.y rfl (ah qn) (.iE 54 M _ _ _ [plan (jT p)] false rfl rfl zd a qr) ?_;apply aI;simp only [go_sem,bC (jT p),QQ];refine⟨λH=>?_,λH=>?_⟩
 ·rw [Vr]at H
  have E:Ob (jT p)=false:=uu H;have g:bP (m+1) tl p=false:=by simp [bP,E]
  refine ac ?_;refine R.rW ?_;rw [g];rfl
 rw [Vr]at H;have E:Ob (jT p)=true:=uu H;clear H A h z;refine ai ?_;refine R.fU (λ(k:Nat) s=>St.lp [4,6,9,10,16,83,84,98,99,100,101,102,103,104,105,106,107,108,109,110,111,112,113] [(85,.pd (I k))] [4,6,9,12,13] [] [] [] s) (λ(k:Nat)=>k<=p.attrs.length/\((p.attrs.take k).zipIdx).all (λq=>decide (mF p.attrs q.1.name=(q.2:Int)))=true) (λ(k:Nat)=>p.attrs.length-k) (0) (⟨qk,qr⟩) ?_;rintro k ⟨z,P⟩;refine ai ?_;refine⟨λh=>?_,λh=>?_⟩
 ·have t:k<p.attrs.length:=uu h
  have d:((p.attrs.take (k+1)).zipIdx).all (λq=>decide (mF p.attrs q.1.name=(q.2:Int)))=decide (mF p.attrs p.attrs[k].name=(k:Int)):=by
   rw [bh t,qT,gn,P];have:(p.attrs.take k).length=k:=qz;simp [this]
  (refine jW (cs:=[(94,.of (Q7 p.attrs p.attrs[k].name))]) 80 _ _ ?_;simp only [go_sem,getD_map,t]);repeat refine⟨qk,?_⟩
  refine⟨λH=>?_,λH=>?_⟩
  ·have H:¬mF p.attrs p.attrs[k].name=(k:Int):=uu H
   have g:bP (m+1) tl p=false:=by
    have:Ed p.attrs=false:=by
     unfold Ed;rw [fm];exact⟨(p.attrs[k],k),by rw [p5];simp [t],uu H⟩
    simp [bP,this]
   refine ac ?_;refine R.rW ?_;rw [g];rfl
  ·have H:mF p.attrs p.attrs[k].name=(k:Int):=uu H
   apply aI;simp only [go_sem,wrapN (k:=k) qk];refine R.fE (k+1) ⟨qk,by rw [d];simpa using H⟩
 have A:¬k<p.attrs.length:=uu h;rw [bi qk]at P;have L:Ed p.attrs=true:=P
 have T:bP (m+1) tl p=(match jD tl p with|some l=>oz l p.attrs|none=>false):=by
  simp [bP,o,v,E,L]
 rw [T];have i:=e.cols u;refine ai ?_;refine R.qP xp 50 xp rfl rfl rfl (ah qn) zd i (λr m h=>xc) (λr h=>xy) ?_;rintro N M' ⟨rfl,x,rfl,O⟩ Z;clear Z;simp only [Behind]
 cases b:jD tl p with
 |none=>
  simp only [AT];refine ar ?_;refine R.rW ?_;rfl
 |some l=>
  obtain rfl:=O l b;simp only [AS];refine ar ?_;refine R.kC (Vj l p.attrs) rfl rfl ze ?_;refine ac ?_;refine R.rW ?_;rfl
def vF(p:Plan):(jT p).kind=p.kind:=rfl
def qX(p:Plan):(jT p).table=if p.kind=1 then 0 else p.table:=rfl
def vG(p:Plan):(jT p).kids=p.kids:=rfl
def qY(p:Plan):(jT p).tests=if p.kind=2 then []else p.tests:=rfl
def vH(p:Plan):(jT p).cols=if p.kind=3\/p.kind=8 then []else p.cols:=rfl
def yN(p:Plan):(jT p).col=if p.kind=7\/p.kind=8 then 0 else p.col:=rfl
def yO(p:Plan):(jT p).agg=if p.kind=8 then 0 else p.agg:=rfl
def qZ(p:Plan):(jT p).attrs=p.attrs:=rfl
def Wa(r:Option (List Attr)):∃x,Oa r=[x,B r.isSome]/\∀l,r=some l->x=attrs l:=by
 cases r with
 |none=>exact⟨NIL,rfl,λl h=>xa⟩
 |some l=>exact⟨attrs l,rfl,λL h=>by cases h;rfl⟩
def Ua{f:Nat}{r:Option (List Attr)}(h:bg aa f args (Oa r)):fV aa f args [] [] (λres M=>M=[]/\∃x,res= .ret [x,B r.isSome]/\∀l,r=some l->x=attrs l):=
 h.toM.mono λres M ⟨b,a⟩=>by
  obtain⟨x,e,H⟩:=Wa r;exact⟨a,x,by rw [b,e],H⟩
def ZH{f:Nat}{a:List Attr}{b:Bool}(h:bg aa f args [attrs a,B b]):fV aa f args [] [] (λres M=>M=[]/\∃x,res= .ret [x,B (AU a b).isSome]/\∀l,AU a b=some l->x=attrs l):=
 h.toM.mono λres M ⟨e,d⟩=>by
  refine⟨d,attrs a,?_,λl H=>?_⟩
  ·rw [e];cases b<;>rfl
  ·cases b<;>simp [AU]at H;rw [H]
def vI(k:Int)(i:Nat)(hi:i<8)(h:(kQ.map (·.1)).getD i undef=key k):rU aa 265 (.int .i64) (key k) (kQ.map (·.1)) (kQ.map (·.2)) true ((kQ.map (·.2)).getD i (.ak [])):=
 ⟨rfl,by simp [kQ,cZ],by simp [kQ],i,hi,h,rfl⟩
def len1{l:List Plan}(h:l.length=1):∃q,l=[q]:=cz.1 h
def len2:∀{l:List Plan} (_:l.length=2),∃q r,l=[q,r]
 | [q,r],_=>⟨q,r,rfl⟩
section
variable (tl:List dO)(p:Plan)(ho:qW p)(htl:∀t∈tl,t.attrs.length<=100000000)
include ho
theorem Ee{q:Plan}(h:q∈p.kids):q.attrs.length<=100000000:=((mM q).1 (FB ((mM p).1 ho).2.2.2.2 q h)).1
include htl in
theorem QR(hk:p.kind=1):Entry tl p 0 158 159 160 where
 look:=by rw [hk];exact vI 1 0 qu rfl
 num:=yq
 rest:=by
  rw [bC (jT p)];refine(Zy p).up ?_;simp only [vF,qX,vG,qY,vH,yN,yO,qZ,hk,dT,a7,ba,gx];exact .same _
 cols:=λ_=>by
  have:jD tl p=vC p tl:=by simp [jD,hk]
  rw [this];exact Ua (Ka p tl (λt h=>by have:=htl t h;omega))
theorem Ra(hk:p.kind=2):Entry tl p 1 161 162 163 where
 look:=by rw [hk];exact vI 2 1 qu rfl
 num:=yq
 rest:=by
  rw [bC (jT p)];refine(Zz p).up ?_;simp only [vF,qX,vG,qY,vH,yN,yO,qZ,hk,dT,a7,ba,gx];refine .ak (.cons ?_ (.cons ?_ (.cons ?_ (.cons ?_ (.cons ?_ (.cons ?_ (.cons ?_ (.cons ?_ .nil))))))))<;>first|exact uZ.same _|exact uZ.nil _
 cols:=λhl=>by
  obtain⟨q,hq⟩:=len1 hl;have:jD tl p=AU q.attrs (Ie p q):=yk;rw [this];exact ZH (Vk p q tl hq).weak
theorem Rb(hk:p.kind=3):Entry tl p 1 164 165 156 where
 look:=by rw [hk];exact vI 3 2 qu rfl
 num:=yq
 rest:=by
  rw [bC (jT p)];refine(Zx p).up ?_;simp only [vF,qX,vG,qY,vH,yN,yO,qZ,hk,dT,a7,ba,gx,or_false];refine .ak (.cons ?_ (.cons ?_ (.cons ?_ (.cons ?_ (.cons ?_ (.cons ?_ (.cons ?_ (.cons ?_ .nil))))))))<;>first|exact uZ.same _|exact uZ.nil _
 cols:=λhl=>by
  obtain⟨q,hq⟩:=len1 hl;have:jD tl p=fC q.attrs p.cols:=yk;have h1:=Ee p ho (q:=q) (by rw [hq];simp);have h2:=((mM p).1 ho).2.1;rw [this];exact Ua (Ti p q tl hq qk qk)
theorem Rc(hk:p.kind=4):Entry tl p 2 166 167 157 where
 look:=by rw [hk];exact vI 4 3 qu rfl
 num:=yq
 rest:=by
  rw [bC (jT p)];refine(Fv p).up ?_;simp only [vF,qX,vG,qY,vH,yN,yO,qZ,hk,dT,ba,gx];refine .ak (.cons ?_ (.cons ?_ (.cons ?_ (.cons ?_ (.cons ?_ (.cons ?_ (.cons ?_ (.cons ?_ .nil))))))))<;>first|exact uZ.same _|exact uZ.nil _
 cols:=λhl=>by
  obtain⟨q,r,hq⟩:=len2 hl;have:jD tl p=nR q.attrs q.attrs r.attrs:=yk;have h1:=Ee p ho (q:=q) (by rw [hq];simp);have h2:=Ee p ho (q:=r) (by rw [hq];simp);rw [this];exact Ua (Mn p q r tl hq qk qk)
theorem RL(hk:p.kind=5):Entry tl p 2 168 169 157 where
 look:=by rw [hk];exact vI 5 4 qu rfl
 num:=yq
 rest:=by
  rw [bC (jT p)];refine(Fv p).up ?_;simp only [vF,qX,vG,qY,vH,yN,yO,qZ,hk,dT,ba,gx];refine .ak (.cons ?_ (.cons ?_ (.cons ?_ (.cons ?_ (.cons ?_ (.cons ?_ (.cons ?_ (.cons ?_ .nil))))))))<;>first|exact uZ.same _|exact uZ.nil _
 cols:=λhl=>by
  obtain⟨q,r,hq⟩:=len2 hl;have:jD tl p=AU q.attrs (oz q.attrs r.attrs):=yk;rw [this];exact ZH (both_ok p q r tl hq).weak
theorem RM(hk:p.kind=6):Entry tl p 2 168 170 157 where
 look:=by rw [hk];exact vI 6 5 qu rfl
 num:=yq
 rest:=by
  rw [bC (jT p)];refine(Fv p).up ?_;simp only [vF,qX,vG,qY,vH,yN,yO,qZ,hk,dT,ba,gx];refine .ak (.cons ?_ (.cons ?_ (.cons ?_ (.cons ?_ (.cons ?_ (.cons ?_ (.cons ?_ (.cons ?_ .nil))))))))<;>first|exact uZ.same _|exact uZ.nil _
 cols:=λhl=>by
  obtain⟨q,r,hq⟩:=len2 hl;have:jD tl p=AU q.attrs (oz q.attrs r.attrs):=yk;rw [this];exact ZH (both_ok p q r tl hq).weak
theorem RO(hk:p.kind=7):Entry tl p 1 171 172 173 where
 look:=by rw [hk];exact vI 7 6 qu rfl
 num:=yq
 rest:=by
  rw [bC (jT p)];refine(ZA p).up ?_;simp only [vF,qX,vG,qY,vH,yN,yO,qZ,hk,dT,a7,ba,gx,or_false];refine .ak (.cons ?_ (.cons ?_ (.cons ?_ (.cons ?_ (.cons ?_ (.cons ?_ (.cons ?_ (.cons ?_ .nil))))))))<;>first|exact uZ.same _|exact uZ.nil _
 cols:=λhl=>by
  obtain⟨q,hq⟩:=len1 hl;have:jD tl p=vw p q:=yk;have h1:=Ee p ho (q:=q) (by rw [hq];simp);rw [this];exact Ua (Xw p q tl hq qk)
theorem RR(hk:p.kind=8):Entry tl p 1 174 175 176 where
 look:=by rw [hk];exact vI 8 7 qu rfl
 num:=yq
 rest:=by
  rw [bC (jT p)];refine(ZB p).up ?_;simp only [vF,qX,vG,qY,vH,yN,yO,qZ,hk,dT,a7,ba,or_true];refine .ak (.cons ?_ (.cons ?_ (.cons ?_ (.cons ?_ (.cons ?_ (.cons ?_ (.cons ?_ (.cons ?_ .nil))))))))<;>first|exact uZ.same _|exact uZ.nil _
 cols:=λhl=>by
  obtain⟨q,hq⟩:=len1 hl;have hw:jD tl p=(match pF p q with|some (l,true)=>some l|_=>none):=yk;have h1:=Ee p ho (q:=q) (by rw [hq];simp);have h2:=((mM p).1 ho).2.1;refine(Kd p q tl hq qk qk).toM.mono ?_;rintro res M' ⟨rfl,rfl⟩;refine⟨rfl,?_⟩;rw [hw]
  cases hg:pF p q with
  |none=>exact⟨NIL,rfl,λl h=>xa⟩
  |some lb=>
   obtain⟨l,b⟩:=lb
   cases b with
   |true=>exact⟨attrs l,rfl,λl' h=>by cases h;rfl⟩
   |false=>exact⟨attrs l,rfl,λl' h=>xa⟩
end
def Fi(tl:List dO)(p:Plan)(n:Nat)(H:Ii p.kind=none):bg aa 104 [.pd (schema tl),.pd KM,.pd (plan p),.pd (I (n:Int))] [B (bP n tl p)]:=by
 rw [bC p];refine bg.mk Tryz.func104 λw G=>?_;refine ai ?_
 have a:∀k∈kQ.map (·.1),cZ (.int .i64) k=true/\k≠key p.kind:=by
  intro k b;simp only [kQ,ap,ax,b8,List.not_mem_nil,or_false]at b;unfold Ii at H;rcases b with rfl|rfl|rfl|rfl|rfl|rfl|rfl|rfl<;>refine⟨rfl,λh=>?_⟩<;>(injection h with _ h;rw [<-h]at H;simp at H)
 refine R.y rfl (ah qn) (.look 193 _ _ true _ _ _ _ _ _ _ rfl rfl rfl wI false ⟨rfl,a,tA⟩) ?_;have f:bP n tl p=false:=by cases n<;>simp [bP,H]
 rw [f];refine ar ?_;refine R.rW ?_;rfl
def Yu(tl:List dO)(l:∀t∈tl,t.attrs.length<=100000000):∀(n:Nat) (p:Plan),n<=1000->qW p->bg aa 104 [.pd (schema tl),.pd KM,.pd (plan p),.pd (I (n:Int))] [B (bP n tl p)]
 |n,p,H,h=>by
  have i:0<n->∀q∈p.kids,bg aa 104 [.pd (schema tl),.pd KM,.pd (plan q),.pd (I ((n-1:Nat):Int))] [B (bP (n-1) tl q)]:=by
   intro r q o;have a:=FB ((mM p).1 h).2.2.2.2 q o;exact Yu tl l (n-1) q qk a
  by_cases m:p.kind=1
  ·exact ny tl p n _ _ _ _ H h (QR tl p h l m) i
  by_cases k:p.kind=2
  ·exact ny tl p n _ _ _ _ H h (Ra tl p h k) i
  by_cases j:p.kind=3
  ·exact ny tl p n _ _ _ _ H h (Rb tl p h j) i
  by_cases g:p.kind=4
  ·exact ny tl p n _ _ _ _ H h (Rc tl p h g) i
  by_cases f:p.kind=5
  ·exact ny tl p n _ _ _ _ H h (RL tl p h f) i
  by_cases e:p.kind=6
  ·exact ny tl p n _ _ _ _ H h (RM tl p h e) i
  by_cases d:p.kind=7
  ·exact ny tl p n _ _ _ _ H h (RO tl p h d) i
  by_cases b:p.kind=8
  ·exact ny tl p n _ _ _ _ H h (RR tl p h b) i
  exact Fi tl p n (by simp [Ii,m,k,j,g,f,e,d,b])
 termination_by n=>n
def _root_.Go.au.RY.RT{C:Cx}{all:Array Oper}{T:List Oper}{o:Oper}{l:List Oper}{k:List KI}{s:St}{f:FuncId}{xs:Array Operand}{e:Array TypeId}{rs:List PD}{b:Bool}{j t:Nat}{a c:Bool}(r:C.dr=false)(n:o.guard=some (j,a))(m:(all[j]?).bind (·.dst)=some t)(d:s.get t= .pd (.raw (.bool c)))(g:o.op= .call ⟨.value (.func f),xs,e⟩)
  (h:(c==a)=true->qF (c==a) (o.op.operands.toList.map (aO s))/\iD C.P s.var s.row (xs.toList.map (yI s)) args b/\bg C.P f args rs)(i:b=true->plain rs=true)(p:dN s o)(next:RY C all T k l (s.put o.dst (.gd (c==a) (eX rs)))):RY C all T k (o::l) s:=
 ⟨_,.inr (.inl ⟨j,a,t,c,_,n,m,.inl d,rfl,λH=>⟨(h H).1,.o7 f xs e args rs b r g (h H).2.1 (h H).2.2 i⟩⟩),ah p,next⟩
def _root_.Go.au.R.pg{C:Cx}{s:St}{k:List KI}(t:Nat){v:SV}(n:t<s.n)(H:s.get t= .gd true v)(h:∀cs,v≠.box cs)(next:R C k (s.set t v)):R C k s:=by
 intro a w E g;refine next a w E (g.Aw n ?_ h)
 have:=g.slots t;rw [H]at this;exact this rfl
def uM(tl:List dO)(p:Plan):Bool:=sK tl&&bP 12 tl p
def Xx(tl:List dO)(p:Plan)(H:∀t∈tl,Cc t/\t.attrs.length<=100000000)(o:qW p):bg aa 50 [.pd (schema tl),.pd (plan p)] [B (uM tl p)]:=by
 have v:=Yu tl (λt h=>(H t h).2) 12 p qk o;rw [bC p]at v⊢;refine bg.mk Tryz.func50 λw G=>?_;refine ai ?_;refine R.dA 6 80 mixed qv ?_;simp only [go_sem];refine RY.kW (Qe tl (λt h=>(H t h).1)) rfl rfl zd ?_;refine z6 ?_;refine RY.RT rfl rfl rfl rfl rfl (λ_=>⟨by simp [qF,bR,di,aO],.nil,Kb⟩) qr qn ?_;refine z6 ?_
 cases s:sK tl with
 |false=>
  have b:uM tl p=false:=by simp [uM,s]
  rw [b];refine ar ?_;refine R.rW ?_;rfl
 |true=>
  have b:uM tl p=bP 12 tl p:=by simp [uM,s]
  rw [b];refine R.pg 8 qn rfl qr ?_;simp only [go_sem];refine R.pg 9 qn rfl qr ?_;simp only [go_sem];refine R.pg 10 qn rfl qr ?_;simp only [go_sem];refine R.om rfl rfl rfl rfl ?_;refine R.kW (v) rfl rfl zj ?_;refine ac ?_;refine R.rW ?_;rfl
open Go.ChangeShapes Go.WideShapes
def co3:aa.cellsOf 3=1:=qq
def co9:aa.cellsOf 9=1:=qq
def Ub:aa.cellsOf 112=3:=qq
def asJ:aa.cellsOf 71=1:=qq
def Wb:aa.cellsOf 110=1:=qq
def tE:aa.cellsOf 114=6:=qq
def tF:aa.cellsOf 101=1:=qq
def Vs:aa.cellsOf 35=1:=qq
def tG:aa.cellsOf 116=3:=qq
def asK:aa.cellsOf 22=1:=qq
def zl:aa.cellsOf 24=1:=qq
def ZI:aa.cellsOf 336=5:=qq
def tI:aa.cellsOf 338=12:=qq
def Wc:aa.cellsOf 100=1:=qq
def asL:aa.cellsOf 99=1:=qq
def ZJ:aa.cellsOf 103=8:=qq
def tL:aa.cellsOf 119=6:=qq
section
variable {H:Type}{enc:TypeId×Value->H}{w:World}
def Qh(N:Nat):oP enc aa w N 112 3 (λv:V=>val v) (λv=>v.text.size<=1048576):=by
 refine⟨λ_=>rfl,λf n C x h g=>?_⟩;obtain⟨l,H⟩:=iK (N:=N) Tryz.underlying112 h qk g;obtain⟨a,_,m⟩:=H 0 _ rfl (jh cM) co3;obtain⟨b,_,k⟩:=H 1 _ rfl (jh cM) co3;obtain⟨s,d,i⟩:=H 2 _ rfl (wJ gL) co9;refine⟨⟨a,b,s⟩,by rw [l,Ub],d,λj e=>?_⟩
 match j,e with
 |0,_=>exact m 0 qu
 |1,_=>exact k 0 qu
 |2,_=>exact i 0 qu
def Ke(N:Nat):oP enc aa w N 71 1 vals (λl=>l.length<=1048576/\∀v∈l,v.text.size<=1048576):=lg (Qh N) qu Tryz.underlying71 Ub
def AV(N:Nat):oP enc aa w N 35 1 ints (λl=>l.length<=1048576/\∀v∈l,True):=lg (jh cM) qu Tryz.underlying35 co3
def Kf(N:Nat):oP enc aa w N 110 1 strs (λl=>l.length<=1048576/\∀s∈l,s.size<=1048576):=lg (wJ gL) qu Tryz.underlying110 co9
def Kg(N:Nat):oP enc aa w N 114 6 (λa:Attr=>attr a) okA:=by
 refine⟨λ_=>rfl,λl v C x h o=>?_⟩;obtain⟨i,H⟩:=iK (N:=N) Tryz.underlying114 h qk o;obtain⟨n,t,r⟩:=H 0 _ rfl (wJ gL) co9;obtain⟨k,_,q⟩:=H 1 _ rfl (jh cM) co3;obtain⟨f,b,p⟩:=H 2 _ rfl (Kf N) Wb;obtain⟨d,u,e⟩:=H 3 _ rfl (Qh N) Ub;refine⟨⟨n,k,f,d⟩,by rw [i,tE],⟨by show n.size<=_;omega,by show f.length<=_;omega,λs g=>by have:=b.2 s g;omega⟩,λj m=>?_⟩
 match j,m with
 |0,_=>exact r 0 qu
 |1,_=>exact q 0 qu
 |2,_=>exact p 0 qu
 |3,_=>exact e 0 qu
 |4,_=>exact e 1 qu
 |5,_=>exact e 2 qu
def Rh(N:Nat):oP enc aa w N 101 1 attrs (λl=>l.length<=1048576/\∀a∈l,okA a):=lg (Kg N) qu Tryz.underlying101 tE
def Mo(N:Nat):oP enc aa w N 116 3 (λt:dO=>D7 t) (λt=>Cc t/\t.attrs.length<=100000000):=by
 refine⟨λ_=>rfl,λf q C x h d=>?_⟩;obtain⟨l,H⟩:=iK (N:=N) Tryz.underlying116 h qk d;obtain⟨n,o,m⟩:=H 0 _ rfl (wJ gL) co9;obtain⟨a,e,i⟩:=H 1 _ rfl (Rh N) tF;obtain⟨k,p,g⟩:=H 2 _ rfl (AV N) Vs;refine⟨⟨n,a,k⟩,by rw [l,tG],⟨⟨by show n.size<=_;omega,by show a.length<=_;omega,by show k.length<=_;omega,e.2⟩,by show a.length<=_;omega⟩,λj b=>?_⟩
 match j,b with
 |0,_=>exact m 0 qu
 |1,_=>exact i 0 qu
 |2,_=>exact g 0 qu
def Kh(N:Nat):oP enc aa w N 22 1 H6 (λl=>l.length<=1048576/\∀t∈l,Cc t/\t.attrs.length<=100000000):=lg (Mo N) qu Tryz.underlying22 tG
def ZK(N:Nat):oP enc aa w N 24 1 schema (λl=>l.length<=1048576/\∀t∈l,Cc t/\t.attrs.length<=100000000):=by
 refine⟨λ_=>rfl,λf i C x h e=>?_⟩;obtain⟨a,d⟩:=iK (N:=N) Tryz.underlying24 h qk e;obtain⟨l,H,g⟩:=d 0 _ rfl (Kh N) asK;refine⟨l,by rw [a,zl],H,λj b=>?_⟩
 match j,b with
 |0,_=>exact g 0 qu
def Vt(N:Nat):oP enc aa w N 336 5 (λs:Side=>side s) (λ_=>True):=by
 refine⟨λ_=>rfl,λf m C x h g=>?_⟩;obtain⟨l,H⟩:=iK (N:=N) Tryz.underlying336 h qk g;obtain⟨a,_,k⟩:=H 0 _ rfl (jh cM) co3;obtain⟨b,_,i⟩:=H 1 _ rfl (jh cM) co3;obtain⟨v,_,d⟩:=H 2 _ rfl (Qh N) Ub;refine⟨⟨a,b,v⟩,by rw [l,ZI],trivial,λj e=>?_⟩
 match j,e with
 |0,_=>exact k 0 qu
 |1,_=>exact i 0 qu
 |2,_=>exact d 0 qu
 |3,_=>exact d 1 qu
 |4,_=>exact d 2 qu
def Mp(N:Nat):oP enc aa w N 338 12 (λt:AP=>tst t) (λ_=>True):=by
 refine⟨λ_=>rfl,λl p C x h k=>?_⟩;obtain⟨g,f⟩:=iK (N:=N) Tryz.underlying338 h qk k;obtain⟨a,_,e⟩:=f 0 _ rfl (Vt N) ZI;obtain⟨o,_,n⟩:=f 1 _ rfl (jh cM) co3;obtain⟨b,_,H⟩:=f 2 _ rfl (Vt N) ZI;obtain⟨d,_,m⟩:=f 3 _ rfl (jh cM) co3;refine⟨⟨a,o,b,d⟩,by rw [g,tI],trivial,λj i=>?_⟩
 match j,i with
 |0,_=>exact e 0 qu
 |1,_=>exact e 1 qu
 |2,_=>exact e 2 qu
 |3,_=>exact e 3 qu
 |4,_=>exact e 4 qu
 |5,_=>exact n 0 qu
 |6,_=>exact H 0 qu
 |7,_=>exact H 1 qu
 |8,_=>exact H 2 qu
 |9,_=>exact H 3 qu
 |10,_=>exact H 4 qu
 |11,_=>exact m 0 qu
def Ki(N:Nat):oP enc aa w N 100 1 xQ (λl=>l.length<=1048576/\∀t∈l,True):=lg (Mp N) qu Tryz.underlying100 tI
def Mq(N:Nat):oP enc aa w N 119 6 (λf:dZ=>fct f) (λ_=>True):=by
 refine⟨λ_=>rfl,λl t C x h i=>?_⟩;obtain⟨e,H⟩:=iK (N:=N) Tryz.underlying119 h qk i;obtain⟨a,_,q⟩:=H 0 _ rfl (jh cM) co3;obtain⟨b,_,p⟩:=H 1 _ rfl (jh cM) co3;obtain⟨c,_,o⟩:=H 2 _ rfl (jh cM) co3;obtain⟨r,_,n⟩:=H 3 _ rfl (Ke N) asJ;obtain⟨d,_,m⟩:=H 4 _ rfl (jh cM) co3;obtain⟨s,_,k⟩:=H 5 _ rfl (AV N) Vs;refine⟨⟨a,b,c,r,d,s⟩,by rw [e,tL],trivial,λj g=>?_⟩
 match j,g with
 |0,_=>exact q 0 qu
 |1,_=>exact p 0 qu
 |2,_=>exact o 0 qu
 |3,_=>exact n 0 qu
 |4,_=>exact m 0 qu
 |5,_=>exact k 0 qu
def Kj(N:Nat):oP enc aa w N 36 1 iC (λl=>l.length<=1048576/\∀f∈l,True):=lg (Mq N) qu Tryz.underlying36 tL
def Yv:∀{l:List Plan},(∀p∈l,qW p)->Fz l
 | [],_=>by simp [Fz]
 |p::l,h=>by
  simp only [Fz];exact⟨h p (bk ..),Yv λq H=>h q (b3 _ H)⟩
def Vu:∀N:Nat,oP enc aa w N 103 8 plan qW
 |0=>⟨Ig,λf m z x h _=>by
  obtain rfl:f=0:=qk;simp [DataW.trod]at h⟩
 |N+1=>by
  have i:=Vu N;refine⟨Ig,λf m z x h e=>?_⟩;obtain⟨l,H⟩:=iK (N:=N) Tryz.underlying103 h qk e;obtain⟨k,_,v⟩:=H 0 _ rfl (jh cM) co3;obtain⟨t,_,u⟩:=H 1 _ rfl (jh cM) co3;obtain⟨K,b,s⟩:=H 2 _ rfl (lg i qu Tryz.underlying99 ZJ) asL;obtain⟨T,A,r⟩:=H 3 _ rfl (Ki N) Wc;obtain⟨C,D,q⟩:=H 4 _ rfl (AV N) Vs;obtain⟨c,_,p⟩:=H 5 _ rfl (jh cM) co3;obtain⟨g,_,o⟩:=H 6 _ rfl (jh cM) co3;obtain⟨a,E,n⟩:=H 7 _ rfl (Rh N) tF;refine⟨.mk k t K T C c g a,by rw [l,ZJ],⟨qk,qk,qk,qk,Yv b.2⟩,λj d=>?_⟩;rw [bC]
  match j,d with
  |0,_=>exact v 0 qu
  |1,_=>exact u 0 qu
  |2,_=>exact s 0 qu
  |3,_=>exact r 0 qu
  |4,_=>exact q 0 qu
  |5,_=>exact p 0 qu
  |6,_=>exact o 0 qu
  |7,_=>exact n 0 qu
def qo{N:Nat}{t e:TypeId}(H:aa.underlying t=some (.slice e)):oP enc aa w N t 1 (λ_:Unit=>PD.unk) (λ_=>True):=by
 refine⟨λ_=>rfl,λf _ s x h _=>?_⟩;rcases DataW.trod_slice H h with⟨rfl,_⟩|⟨a,len,C,E,rest,n,rfl,rfl,rfl,_⟩
 ·exact⟨(),rfl,trivial,λj b=>by obtain rfl:j=0:=by omega
                                exact .unk _ rfl⟩
 ·exact⟨(),rfl,trivial,λj b=>by obtain rfl:j=0:=by omega
                                exact .unk _ rfl⟩
def zP:aa.cellsOf 44=16:=qq
def zR:aa.cellsOf 32=7:=qq
def Ab:aa.cellsOf 39=3:=qq
def tM:aa.cellsOf 105=9:=qq
def Al:aa.cellsOf 42=1:=qq
end
end Go.Proofs.Z
namespace Go.au
variable {t b q:Nat}{cs args:List SV}{xs:Array Operand}{T:Array TypeId}
section
variable {C:Cx}{s:St}{a:Act}{w w':World}{E:Env}{P:Program}{k:List KI}{all:Array Oper}{l:List Oper}{o:Oper}
abbrev FC(f b:Nat):Value:=.func (.func f) #[.pointer (some ⟨b,0,none⟩)] #[]
def R.lC{f:Nat}{x:Operand}(d:o.op= .makeFunc (.func f) #[x] #[])(e:o.guard=none)(i:bU s o)(H:aO s x= .aA t 0)(j:C.vb0 t=some b)(next:R C (.ops all l::k) (s.put o.dst (.pd (.raw (FC f b))))):R C (.ops all (o::l)::k) s:=by
 intro a w E g;have h:=aT g x;rw [H]at h;have h:a.eval x= .pointer (some ⟨E.vb t,0,none⟩):=h;rw [g.aZ t b j]at h;exact gX e (v:=FC f b) (by unfold execOp;simp [d,Instr.makeFunc,h]) (next _ _ _ (g.eY i (.raw _ rfl) qr))
def R.Oc(r:C.dr=false){c f:Nat}{d:PD}{rs:List PD}{lb:Bool}(D:o.op= .call ⟨.value (.tmp c),xs,T⟩)(J:o.guard=none)(L:bU s o)(p:s.get c= .pd (.raw (FC f b)))(N:C.vb0 t=some b)(x:s.var t=some cs)
  (u:d.width<=cs.length)(n:∀j,j<d.width->Cv s.var s.row (cs.getD j .dead) (d.cell j))(M:iD C.P s.var s.row (xs.toList.map (aO s)) args lb)(q:bg C.P f (.pd (.ptr d)::args) rs)(A:plain rs=true)(next:R C (.ops all l::k) (s.put o.dst (eX rs))):R C (.ops all (o::l)::k) s:=by
 intro a w E g;refine wpList_plain J λK O=>?_;have H:=g.slots c;rw [p]at H;have H:=aH.aC H;have h:=fJ (P:=C.P) (w:=w) q.1 a.eval o (.tmp c) xs T _ D _ H;unfold Oper.wp;rw [h,Oper.upon_enter];have e:(#[Value.pointer (some ⟨b,0,none⟩)]++xs.map a.eval++ #[]:Array Value)=(Value.pointer (some ⟨b,0,none⟩)::xs.toList.map a.eval).toArray:=by apply hZ;simp
 rw [e];refine(Ls g r (xs:=.aA t 0::xs.toList.map (aO s)) (l:=true) (.cons (.ptr t cs d x u n) M) q (λ_=>A) qr (λi G=>?_)).mono ?_
 ·cases i with
  |zero=>simp [Rel,g.aZ t b N]
  |succ i=>
   simp only [an,al,Array.length_toList]at G;have Q:=aT g xs[i];have m:i<xs.size:=qk;simpa [aL,m]using Q
 ·rintro e X ⟨v,Z,rfl,U,z⟩
  exact O _ _ (next _ _ _ (U.eY L z (qN rs)))
def Fk{Q:List Nat}(h:Q.contains q=false){x:SV}(H:x.aY Q= .own q):x= .own q:=by
 cases x<;>simp only [SV.aY]at H<;>first|exact H|(split at H<;>first|exact H|cases H)|cases H
def gU.sN{Q:List Nat}{T:List Oper}{l:List (Oper×Option Nat)}{d e off:Nat}{ty:TypeId}{r:Row}(hq:q∈Q)(hr0:C.fP q=none)(N:o.op= .load ty (.tmp b))(hg:o.guard=none)(hd:o.dst=some d)(hn:d<s.n)(P:s.get b= .aA e off)(U:s.var e=some cs)(hlt:off<cs.length)
  (hc:cs.getD off .dead= .own q)(Z:s.row q=some r)(hk:aQ C.P ty=true)(ha:bT C.P ty=false)(next:gU C all Q T k l ((s.chain q (some r)).put o.dst (.own q))):gU C all Q T k ((o,some q)::l) s:=by
 refine⟨some r,.own q,hq,.inl rfl,?_,λt ht=>wg,by rw [hd];simp,next⟩;intro f k' J hl n G h a w E g;have M:f.get b= .aA e off:=by rw [hl b (uX (by simp [N,bR]))];exact P
 obtain⟨c,K,hcl,L⟩:∃c,f.var e=some c/\c.length=cs.length/\c.getD off .dead= .own q:=by
  have D:lk e (bn (wo Q q) f.vars)=some (cs.map (SV.aY (wo Q q))):=by
   rw [G];simp only [bn,dh];have:lk e s.vars=some cs:=U;rw [this];rfl
  simp only [bn,dh]at D
  cases H:lk e f.vars with
  |none=>simp [H]at D
  |some c=>
   simp [H]at D;have A:c.length=cs.length:=by have:=congrArg aR D;simpa using this
   refine⟨c,H,A,Fk (Q:=wo Q q) (by simp [wo]) ?_⟩;rw [<-dB (SV.aY (wo Q q)) rfl,D,dB _ rfl,hc];simp [SV.aY,wo]
 have hp:=g.slots b;rw [M]at hp;obtain⟨u,X,z⟩:=BL g (t:=ty) (x:=.aA e off) (v:=.own q) (vc:=aQ C.P ty=true/\off<c.length) (by simp only [kM,K,ha,b6,ba,L]) ⟨hk,qk⟩ hp;have m:f.row q=some r:=n.trans Z;have g1:aB C (f.chain q (some r)) a w {E with rb:=λj=>if j=q then E.rb q else E.rb j}:=g.row (i:=q) (r':=r) (w':=w) (E.rb q) (Keeps.refl _ _) g.kept (a3 _) (λp hp=>jb) (λ_ _ _=>rfl) (g.rows q r m) (λb cap M=>.inr ⟨r,_,m,M,rfl⟩);refine gX hg (v:=u) (by unfold execOp;simp only [N,Act.eval,Sem.run_bind,X,Result.andThen_ok,Sem.run_pure]) (h _ _ _ (g1.eY (λt ht=>by rw [hd]at ht;cases ht;exact J▸hn) ?_ qr));intro O H;have H:(f.chain q (some r)).row q=some O:=H;rw [vg,af rfl]at H
 cases H
 simpa using z r m
def Qi(q:Nat)(l:List Bool):List (Option Nat):=l.map λb=>if b then some q else none
def Vw(q:Nat)(l:List Bool)(h:Hl all (Qi 0 l)=true):Hl all (Qi q l)=true:=by
 have g:∀(q i:Nat),(Qi q l).getD i none=if l.getD i false then some q else none:=λq i=>by
  simp only [Qi,ag,cU]
  cases l[i]?<;>rfl
 have H:∀q,(Qi q l).length=l.length:=λq=>by simp [Qi]
 unfold Hl at h⊢;simp only [H,g]at h⊢;refine Eq.trans ?_ h
 congr 1
 funext j
 congr 1
 funext i
 cases l.getD i false
 ·simp only [b6,ba]
 ·simp only [a7]
  cases all[j]?<;>cases all[i]?<;>simp only
  congr 1
  ·congr 2
   ·cases l.getD j false<;>simp
   ·congr 1
    ·cases l.getD j false<;>simp
    ·congr 1
     funext a
     cases l.getD a false<;>first|rfl|simp
  ·cases l.getD j false<;>simp
end
def Has{α:Type}(f:Nat->Option α):List (Nat×α)->Prop
 | []=>True
 |(i,r)::l=>f i=some r/\Has f l
def Has.lk{α:Type}{f:Nat->Option α}:∀{l:List (Nat×α)},Has f l->∀i r,lk i l=some r->f i=some r
 | [],_,i,r,h=>by simp [Go.au.lk]at h
 |(j,x)::l,⟨a,H⟩,i,r,h=>by
  simp only [Go.au.lk]at h
  split at h
  ·rename_i e;subst e;rw [a,h]
  ·exact H.lk i r h
section
variable {P:Program}{s:St}{k:List KI}{fn:Func}{w0:World}{G:Pub}{bs:List (Nat×Nat)}{rb:Nat->Option (Nat×Nat)}{ids pn:List Nat}{Q:(Nat->Nat)->mg->List SV->List (Nat×List SV)->List (Nat×Row)->Prop}
def R.rV(vars:List (Nat×List SV))(rows:List (Nat×Row))(xs:List SV)(h:resV P s fn.results.toList=some (True,xs))(a:∀vb:Nat->Nat,(∀t b,lk t bs=some b->vb t=b)->Q vb .ret xs vars rows)(H:Has s.var vars)(r:Has s.row rows)
  (e:xs.all (SV.within (keys bs++keys vars) (keys rows))=true:=by rfl)(d:(vars.all λp=>p.2.all (SV.within (keys bs++keys vars) (keys rows)))=true:=by rfl):R (Cx.fv P w0 G (bodyPost P fn (iG P w0 G bs rb ids pn Q)) bs rb ids pn) (.code .ret::k) s:=
 R.Di vars rows h trivial a H.lk r.lk e d
def R.oV(vars:List (Nat×List SV))(rows:List (Nat×Row))(xs:List SV)(h:resV P s fn.results.toList=some (True,xs))(a:∀vb:Nat->Nat,(∀t b,lk t bs=some b->vb t=b)->Q vb .ret xs vars rows)(H:Has s.var vars)(r:Has s.row rows)
  (e:xs.all (SV.within (keys bs++keys vars) (keys rows))=true:=by rfl)(d:(vars.all λp=>p.2.all (SV.within (keys bs++keys vars) (keys rows)))=true:=by rfl):R (Cx.fv P w0 G (bodyPost P fn (iG P w0 G bs rb ids pn Q)) bs rb ids pn) [] s:=
 R.To vars rows h trivial a H.lk r.lk e d
def tf{α:Type}{t:Nat}:∀{l:List (Nat×α)} {x:α},lk t l=some x->t∈keys l
 |(j,y)::l,x,h=>by
  simp only [Go.au.lk]at h
  split at h
  ·rename_i e;subst e;exact bk ..
  ·exact b3 _ (tf h)
def Yw{i:Nat}:∀{l:List Nat},oN i l=true->i∈l
 |j::l,h=>by
  simp only [oN]at h
  split at h
  ·rename_i e;subst e;exact bk ..
  ·exact b3 _ (Yw h)
def R.Ij(f v:Nat->Nat){post:Exit->Act->World->Prop}(ok:s.Y7 f v=true)(g:∀t cs,s.get t≠.box cs)(h:R (Cx.fv P w0 G post bs rb ids pn) k (s.ren f))(d:((ids++pn).all λi=>f i==i&&v i==i)=true:=by rfl)(m:((keys bs).all λt=>v t==t)=true:=by rfl):R (Cx.fv P w0 G post bs rb ids pn) k s:=by
 have d:∀i∈ids++pn,f i=i/\v i=i:=λi l=>uu ((aM.1 d) i l);refine R.ren f v (λi p H=>d i ?_) (λi b a=>(d i ?_).1) (λt b j=>uu ((aM.1 m) t (tf j))) ok g h
 ·have H:(if oN i pn=true then some (rb i)else none)=some p:=H
  split at H
  ·rename_i e;exact g9 _ (Yw e)
  ·cases H
 ·have a:(if ids.contains i then(rb i).map (·.1)else none)=some b:=a
  split at a
  ·rename_i e;exact eR _ (uu e)
  ·cases a
end
variable {C:Cx}{k:List KI}{s:St}{all:Array Oper}{l:List Oper}{o:Oper}
def R.cV(aW:List (Nat×List SV))(bH:List (Nat×Row))(d pn:List Nat){x:Operand}{f:FuncId}{e L:List SV}{Q:(Nat->Nat)->QV}(r:C.dr=false)(j:o.op= .call ⟨.value x,xs,T⟩)(m:o.guard=none)
  (n:∀vb:Nat->Nat,(∀t b,C.vb0 t=some b->vb t=b)->bJ C.P f ((keys aW).map λt=>(t,vb t)) pn args aW bH (Q vb))(q:dN s o)(E:callee s x=some (f,e,L))(u:xJ C.P s.var s.row (e++xs.toList.map (aO s)++L) args)(p:aF C.P f)
  (v:Has s.var aW)(g:Has s.row bH)
  (next:∀vb:Nat->Nat,(∀t b,C.vb0 t=some b->vb t=b)->∀D res a vars rows,Q vb D res a vars rows->DY C s (keys aW) (keys bH) d [] pn (λS a=>R C (.ops all l::k) (S.put o.dst (ER a))) res a vars rows)(H:∀t,d.contains t=true->C.vb0 t=none:=by simp)(hrb:∀i,oN i pn=false->C.fP i=none:=by first|exactλ_ _=>rfl|exactλ_ h=>ae (by rw [h];decide)):R C (.ops all (o::l)::k) s:=
 R.Tp r d j m (ah q) E u p n v.lk g.lk H hrb next
end Go.au
namespace Go.Proofs.Z
open Go.au
section
variable {C:Cx}{s:St}{all:Array Oper}{o:Oper}{l:List Oper}{k:List KI}
def _root_.Go.au.R.cX(aW:List (Nat×List SV))(bH:List (Nat×Row))(d pn:List Nat){x:Operand}{f:FuncId}{e L:List SV}{xs:Array Operand}{T:Array TypeId}{args:List SV}{Q:(Nat->Nat)->QV}(r:C.dr=false)(j:o.op= .call ⟨.value x,xs,T⟩)(m:o.guard=none)
  (n:∀vb:Nat->Nat,(∀t b,C.vb0 t=some b->vb t=b)->bJ C.P f ((keys aW).map λt=>(t,vb t)) pn args aW bH (Q vb))(E:callee s x=some (f,e,L))(u:xJ C.P s.var s.row (e++xs.toList.map (aO s)++L) args)(p:aF C.P f)
  (next:∀vb:Nat->Nat,(∀t b,C.vb0 t=some b->vb t=b)->∀D res a vars rows,Q vb D res a vars rows->DY C s (keys aW) (keys bH) d [] pn (λS a=>R C (.ops all l::k) (S.put o.dst (ER a))) res a vars rows)
  (q:dN s o:=by simp only [go_sem])(v:Has s.var aW:=by first|exact trivial|(simp only [Has,go_sem];all_goals(and_intros<;>first|rfl|trivial)))(g:Has s.row bH:=by first|exact trivial|(simp only [Has,go_sem];all_goals(and_intros<;>first|rfl|trivial)))
  (H:∀t,d.contains t=true->C.vb0 t=none:=by first|(intro t ht;simp at ht;done)|(intro t ht;simp at ht;subst ht;rfl)|(intro t ht;simp at ht;rcases ht with rfl|rfl<;>rfl))(hrb:∀i,oN i pn=false->C.fP i=none:=by first|exactλ_ _=>rfl|exactλ_ h=>ae (by rw [h];decide)):R C (.ops all (o::l)::k) s:=
 R.cV aW bH d pn r j m n q E u p v g next H hrb
end
section
variable {P:Program}{s:St}{k:List KI}{fn:Func}{w0:World}{G:Pub}{bs:List (Nat×Nat)}{rb:Nat->Option (Nat×Nat)}{ids pn:List Nat}{Q:QV}
def _root_.Go.au.R.rX(vars:List (Nat×List SV))(rows:List (Nat×Row))(xs:List SV)(a:∀vb:Nat->Nat,(∀t b,lk t bs=some b->vb t=b)->Q vb .ret xs vars rows)(h:resV P s fn.results.toList=some (True,xs):=by first|rfl|(simp only [resV,ly,go_sem];all_goals rfl))
  (H:Has s.var vars:=by first|exact trivial|(simp only [Has,go_sem];all_goals(and_intros<;>first|rfl|trivial)))(r:Has s.row rows:=by first|exact trivial|(simp only [Has,go_sem];all_goals(and_intros<;>first|rfl|trivial)))
  (e:xs.all (SV.within (keys bs++keys vars) (keys rows))=true:=by rfl)(d:(vars.all λp=>p.2.all (SV.within (keys bs++keys vars) (keys rows)))=true:=by rfl):R (Cx.fv P w0 G (bodyPost P fn (iG P w0 G bs rb ids pn Q)) bs rb ids pn) (.code .ret::k) s:=
 R.rV vars rows xs h a H r e d
def _root_.Go.au.R.oX(vars:List (Nat×List SV))(rows:List (Nat×Row))(xs:List SV)(a:∀vb:Nat->Nat,(∀t b,lk t bs=some b->vb t=b)->Q vb .ret xs vars rows)(h:resV P s fn.results.toList=some (True,xs):=by first|rfl|(simp only [resV,ly,go_sem];all_goals rfl))
  (H:Has s.var vars:=by first|exact trivial|(simp only [Has,go_sem];all_goals(and_intros<;>first|rfl|trivial)))(r:Has s.row rows:=by first|exact trivial|(simp only [Has,go_sem];all_goals(and_intros<;>first|rfl|trivial)))
  (e:xs.all (SV.within (keys bs++keys vars) (keys rows))=true:=by rfl)(d:(vars.all λp=>p.2.all (SV.within (keys bs++keys vars) (keys rows)))=true:=by rfl):R (Cx.fv P w0 G (bodyPost P fn (iG P w0 G bs rb ids pn Q)) bs rb ids pn) [] s:=
 R.oV vars rows xs h a H r e d
end
end Go.Proofs.Z
