/- A part of the proof. -/
import Derived.Test.YtjbhhddfaohdnaaGreatDoorPS1
import Derived.Test.YtjbhhddfaohdnaaGreatDoorPT10
set_option linter.all false
set_option linter.deprecated false
open Go.Proofs.Tryz renaming prog→abo,results217→as1
open Go.Value.bool renaming injEq→akp
open Int renaming toNat_zero→afM,toNat_natCast→ano
open List renaming cons_append→akj,length→adF,getElem_mapIdx→aru
section
namespace Go.Proofs.Z
open Go Go.au Go.Proofs
set_option maxRecDepth 10000
set_option maxHeartbeats 4000000
theorem aeG:aG abo 271:=fun _ _=>by kernel_rfl
theorem aeH:aG abo 209:=fun _ _=>by kernel_rfl
theorem Gs (l:List ByteArray) (p:ByteArray→Bool):aA abo 271 [.pd (.list 1 (l.map S)),.fn (decides S p l)] [I (jE p l)]:=by
 refine aA.mk Tryz.func271 rfl aeG (by simp [Tryz.ntmps271]) fun w G=>?_
 refine R.bound 0 (sz:=1) (ds:=l.map S) rfl fun hl=>?_
 have hl:l.length≤9223372036854775807:=by simpa [maxLen] using hl
 (refine aB 40 _ _ ?_; simp only [go_sem])
 refine R.fam (fun k:Nat=>⟨19,[(0,.pd (.list 1 (l.map S))),(1,.fn (decides S p l)),(7,.pd (I l.length)),(8,.pd (I k))],[],[],[],[]⟩) (fun k=>k≤l.length∧(l.take k).any p=false) (fun k=>l.length - k) 0 ⟨by omega,by simp⟩ (by simp only [go_sem,I]; rfl) ?_
 rintro k ⟨hk,hinv⟩
 (refine aB 60 _ _ ?_; simp only [go_sem,I])
 refine ⟨fun h=>?_,fun h=>?_⟩
 ·have hlt:k<l.length:=by simpa using h
  (refine aB 60 _ _ ?_; simp only [go_sem,getD_map,hlt])
  refine ⟨by omega,?_⟩
  refine R.y rfl (aj (by simp only [go_sem])) (.nO 11 _ _ _ _ (B (p l[k])) rfl rfl rfl ⟨l[k],ab5 hlt,rfl,rfl⟩) ?_
  (refine aB 60 _ _ ?_; simp only [go_sem,B])
  refine ⟨fun h2=>?_,fun h2=>?_⟩
  ·(refine aB 60 _ _ ?_; simp only [go_sem])
   refine R.dJ (vc:=True) ?_ trivial
   rw [jo hlt hinv h2]; rfl
  ·(refine aB 60 _ _ ?_; simp only [go_sem,wrapN (k:=k) (by omega)])
   refine R.jm (k+1) ⟨by omega,?_⟩ (by show _<_; omega) (by simp only [go_sem])
   rw [abq hlt,amO,hinv]; simpa using h2
 ·have hge:¬ k<l.length:=by simpa using h
  (refine aB 60 _ _ ?_; simp only [go_sem])
  refine R.dJ (vc:=True) ?_ trivial
  rw [abT (by omega)] at hinv
  rw [jL hinv]; rfl
theorem DI (l:List ByteArray) (p:ByteArray→Bool):aA abo 209 [.pd (.list 1 (l.map S)),.fn (decides S p l)] [B (l.any p)]:=by
 refine aA.mk Tryz.func209 rfl aeH (by simp [Tryz.ntmps209]) fun w G=>?_
 (refine aB 40 _ _ ?_; simp only [go_sem])
 refine R.jr (Gs l p) rfl rfl (.cons (.pd _) (.cons (.fn _) .nil)) (by simp) (by simp only [go_sem]) ?_
 (refine aB 40 _ _ ?_; simp only [go_sem,I])
 refine R.dJ (vc:=True) ?_ trivial
 rw [← yK]; rfl
theorem aeI:aG abo 213:=fun _ _=>by kernel_rfl
theorem Gt (l:List bJ) (p:bJ→Bool):aA abo 213 [.pd (.list 3 (l.map tq)),.fn (decides tq p l)] [I (jE p l)]:=by
 refine aA.mk Tryz.func213 rfl aeI (by simp [Tryz.ntmps213]) fun w G=>?_
 refine R.bound 0 (sz:=3) (ds:=l.map tq) rfl fun hl=>?_
 have hl:l.length≤9223372036854775807:=by simpa [maxLen] using hl
 (refine aB 40 _ _ ?_; simp only [go_sem])
 refine R.fam (fun k:Nat=>⟨19,[(0,.pd (.list 3 (l.map tq))),(1,.fn (decides tq p l)),(7,.pd (I l.length)),(8,.pd (I k))],[],[],[],[]⟩) (fun k=>k≤l.length∧(l.take k).any p=false) (fun k=>l.length - k) 0 ⟨by omega,by simp⟩ (by simp only [go_sem,I]; rfl) ?_
 rintro k ⟨hk,hinv⟩
 (refine aB 60 _ _ ?_; simp only [go_sem,I])
 refine ⟨fun h=>?_,fun h=>?_⟩
 ·have hlt:k<l.length:=by simpa using h
  (refine aB 60 _ _ ?_; simp only [go_sem,getD_map,hlt])
  refine ⟨by omega,?_⟩
  refine R.y rfl (aj (by simp only [go_sem])) (.nO 11 _ _ _ _ (B (p l[k])) rfl rfl rfl ⟨l[k],ab5 hlt,rfl,rfl⟩) ?_
  (refine aB 60 _ _ ?_; simp only [go_sem,B])
  refine ⟨fun h2=>?_,fun h2=>?_⟩
  ·(refine aB 60 _ _ ?_; simp only [go_sem])
   refine R.dJ (vc:=True) ?_ trivial
   rw [jo hlt hinv h2]; rfl
  ·(refine aB 60 _ _ ?_; simp only [go_sem,wrapN (k:=k) (by omega)])
   refine R.jm (k+1) ⟨by omega,?_⟩ (by show _<_; omega) (by simp only [go_sem])
   rw [abq hlt,amO,hinv]; simpa using h2
 ·have hge:¬ k<l.length:=by simpa using h
  (refine aB 60 _ _ ?_; simp only [go_sem])
  refine R.dJ (vc:=True) ?_ trivial
  rw [abT (by omega)] at hinv
  rw [jL hinv]; rfl
theorem aeJ:aG abo 215:=fun _ _=>by kernel_rfl
theorem qw (l:List Attr) (p:Attr→Bool):aA abo 215 [.pd (.list 6 (l.map attr)),.fn (decides attr p l)] [I (jE p l)]:=by
 refine aA.mk Tryz.func215 rfl aeJ (by simp [Tryz.ntmps215]) fun w G=>?_
 refine R.bound 0 (sz:=6) (ds:=l.map attr) rfl fun hl=>?_
 have hl:l.length≤9223372036854775807:=by simpa [maxLen] using hl
 (refine aB 40 _ _ ?_; simp only [go_sem])
 refine R.fam (fun k:Nat=>⟨19,[(0,.pd (.list 6 (l.map attr))),(1,.fn (decides attr p l)),(7,.pd (I l.length)),(8,.pd (I k))],[],[],[],[]⟩) (fun k=>k≤l.length∧(l.take k).any p=false) (fun k=>l.length - k) 0 ⟨by omega,by simp⟩ (by simp only [go_sem,I]; rfl) ?_
 rintro k ⟨hk,hinv⟩
 (refine aB 60 _ _ ?_; simp only [go_sem,I])
 refine ⟨fun h=>?_,fun h=>?_⟩
 ·have hlt:k<l.length:=by simpa using h
  (refine aB 60 _ _ ?_; simp only [go_sem,I,getD_map,hlt])
  refine ⟨by omega,?_⟩
  refine R.y rfl (aj (by simp only [go_sem])) (.nO 11 _ _ _ _ (B (p l[k])) rfl rfl rfl ⟨l[k],ab5 hlt,rfl,rfl⟩) ?_
  (refine aB 60 _ _ ?_; simp only [go_sem,B])
  refine ⟨fun h2=>?_,fun h2=>?_⟩
  ·(refine aB 60 _ _ ?_; simp only [go_sem])
   refine R.dJ (vc:=True) ?_ trivial
   rw [jo hlt hinv h2]; rfl
  ·(refine aB 60 _ _ ?_; simp only [go_sem,wrapN (k:=k) (by omega)])
   refine R.jm (k+1) ⟨by omega,?_⟩ (by show _<_; omega) (by simp only [go_sem])
   rw [abq hlt,amO,hinv]; simpa using h2
 ·have hge:¬ k<l.length:=by simpa using h
  (refine aB 60 _ _ ?_; simp only [go_sem])
  refine R.dJ (vc:=True) ?_ trivial
  rw [abT (by omega)] at hinv
  rw [jL hinv]; rfl
theorem Xm:aG abo 210:=fun _ _=>by kernel_rfl
theorem Xn:aG abo 214:=fun _ _=>by kernel_rfl
theorem Xo:aG abo 248:=fun _ _=>by kernel_rfl
theorem Xp:aG abo 249:=fun _ _=>by kernel_rfl
theorem Xq:aG abo 216:=fun _ _=>by kernel_rfl
theorem Xr:aG abo 218:=fun _ _=>by kernel_rfl
theorem aeK:aG abo 143:=fun _ _=>by kernel_rfl
theorem aeL:aG abo 144:=fun _ _=>by kernel_rfl
theorem aeM:aG abo 145:=fun _ _=>by kernel_rfl
theorem aeN:aG abo 188:=fun _ _=>by kernel_rfl
theorem aeO:aG abo 250:=fun _ _=>by kernel_rfl
theorem aeP:aG abo 290:=fun _ _=>by kernel_rfl
theorem aeQ:aG abo 217:=fun _ _=>by kernel_rfl
theorem aeR:aG abo 252:=fun _ _=>by kernel_rfl
theorem aeS:aG abo 191:=fun _ _=>by kernel_rfl
theorem Xt (s:ByteArray) (hs:s.size≤9223372036854775807):aA abo 210 [.pd (S s)] [B (!iT s)]:=by
 refine aA.mk Tryz.func210 rfl Xm (by simp [Tryz.ntmps210]) fun w G=>?_
 (refine bK [(4,.of (Sr s hs))] 120 _ _ ?_; simp only [go_sem,Go.au.dR,gX,↓reduceIte,Tryz.results210])
def eqS (a b:ByteArray):Bool:=a.toList == b.toList
theorem ZQ (t:bJ) (n:ByteArray):aA abo 214 [.pd (tq t),.ref (S n) 0] [B (eqS t.name n)]:=by
 refine aA.mk Tryz.func214 rfl Xn (by simp [Tryz.ntmps214]) fun w G=>?_
 (refine bK [] 120 _ _ ?_; simp only [go_sem,Go.au.dR,gX,↓reduceIte,agk,PD.raw.injEq,akp,Tryz.results214])
 simp [eqS]
theorem find_ok (l:List bJ) (n:ByteArray):aA abo 143 [.pd (schema l),.pd (S n)] [I (jE (fun t=>eqS t.name n) l)]:=by
 refine aA.mk Tryz.func143 rfl aeK (by simp [Tryz.ntmps143]) fun w G=>?_
 refine aMD ?_
 refine R.kC (Gt l (fun t=>eqS t.name n)) rfl rfl (.cons (.pd _) (.cons (Co.EP (S n) rfl Xn (by rintro es r ⟨x,_,rfl,rfl⟩; exact ZQ x n)) (.nil))) ?_
 refine aMD ?_
 refine R.rC ?_
 rfl
theorem Uk (t:Attr) (n:ByteArray):aA abo 216 [.pd (attr t),.ref (S n) 0] [B (eqS t.name n)]:=by
 refine aA.mk Tryz.func216 rfl Xq (by simp [Tryz.ntmps216]) fun w G=>?_
 (refine bK [] 120 _ _ ?_; simp only [go_sem,Go.au.dR,gX,↓reduceIte,agk,PD.raw.injEq,akp,Tryz.results216])
 simp [eqS]
def gy (l:List Attr) (n:ByteArray):Int:=jE (fun t=>eqS t.name n) l
theorem LQ (l:List Attr) (n:ByteArray):aA abo 144 [.pd (attrs l),.pd (S n)] [I (gy l n)]:=by
 refine aA.mk Tryz.func144 rfl aeL (by simp [Tryz.ntmps144]) fun w G=>?_
 refine aMD ?_
 refine R.kC (qw l (fun t=>eqS t.name n)) rfl rfl (.cons (.pd _) (.cons (Co.EP (S n) rfl Xq (by rintro es r ⟨x,_,rfl,rfl⟩; exact Uk x n)) (.nil))) ?_
 refine aMD ?_
 refine R.rC ?_
 rfl
theorem QJ (t:Attr) (n:ByteArray):aA abo 248 [.pd (attr t),.ref (S n) 0] [B (eqS t.name n)]:=by
 refine aA.mk Tryz.func248 rfl Xo (by simp [Tryz.ntmps248]) fun w G=>?_
 (refine bK [] 120 _ _ ?_; simp only [go_sem,Go.au.dR,gX,↓reduceIte,agk,PD.raw.injEq,akp,Tryz.results248])
 simp [eqS]
theorem Xu (l:List ByteArray) (n:ByteArray):aA abo 290 [.pd (strs l),.pd (S n)] [I (jE (fun t=>eqS n t) l)]:=by
 refine aA.mk Tryz.func290 rfl aeP (by simp [Tryz.ntmps290]) fun w G=>?_
 refine R.bound 0 (sz:=1) (ds:=l.map S) rfl fun hl=>?_
 have hl:l.length≤9223372036854775807:=by simpa [maxLen] using hl
 refine aMD ?_
 refine R.fU (fun (k:Nat) s=>St.lp [0,1,6,7] [(8,.pd (I k))] [] [] [] [] s) (fun (k:Nat)=>k≤l.length∧(l.take k).any (fun t=>eqS n t)=false) (fun (k:Nat)=>l.length - k) (0) (⟨by omega,by simp⟩) ?_
 rintro k ⟨hk,hinv⟩
 refine aMD ?_
 refine ⟨fun h=>?_,fun h=>?_⟩
 ·have hlt:k<l.length:=by simpa using h
  apply ev8; simp only [go_sem,getD_map,hlt]
  refine ⟨by omega,?_⟩
  refine ⟨fun h2=>?_,fun h2=>?_⟩
  ·refine aMD ?_
   refine R.rC ?_
   rw [jo hlt hinv h2]; rfl
  ·apply ev8; simp only [go_sem,wrapN (k:=k) (by omega)]
   refine R.fE (k+1) ⟨by omega,by rw [abq hlt,amO,hinv]; simpa [eqS] using h2⟩
 ·have hge:¬ k<l.length:=by simpa using h
  rw [abT (by omega)] at hinv
  refine aMD ?_
  refine R.rC ?_
  rw [jL hinv]; rfl
theorem OW (l:List ByteArray) (n:ByteArray):aA abo 250 [.pd (strs l),.pd (S n)] [B (l.any fun t=>eqS n t)]:=by
 refine aA.mk Tryz.func250 rfl aeO (by simp [Tryz.ntmps250]) fun w G=>?_
 refine aMD ?_
 refine R.kC (Xu l n) rfl rfl (.cons (.pd _) (.cons (.pd _) (.nil))) ?_
 refine aMD ?_
 refine R.rC ?_
 rw [← yK]; rfl
theorem QK (t:Attr) (n:ByteArray):aA abo 249 [.pd (attr t),.ref (S n) 0] [B (t.was.any fun t=>eqS n t)]:=by
 refine aA.mk Tryz.func249 rfl Xp (by simp [Tryz.ntmps249]) fun w G=>?_
 (refine bK [(7,.of (OW t.was n))] 120 _ _ ?_; simp only [go_sem,Go.au.dR,gX,↓reduceIte,Tryz.results249])
def kM (l:List Attr) (n:ByteArray):Int:=if 0≤gy l n then gy l n else jE (fun t=>t.was.any fun t=>eqS n t) l
theorem Ul (t:bJ) (n:ByteArray):aA abo 188 [.pd (tq t),.pd (S n)] [I (kM t.attrs n)]:=by
 refine aA.mk Tryz.func188 rfl aeN (by simp [Tryz.ntmps188]) fun w G=>?_
 refine aMD ?_
 refine R.kC (qw t.attrs (fun t=>eqS t.name n)) rfl rfl (.cons (.pd _) (.cons (Co.EP (S n) rfl Xo (by rintro es r ⟨x,_,rfl,rfl⟩; exact QJ x n)) (.nil))) ?_
 refine aMD ?_
 refine ⟨fun h=>?_,fun h=>?_⟩
 ·have h:0≤gy t.attrs n:=by simpa [gy] using h
  refine aMD ?_
  refine R.rC ?_
  rw [kM,ab8 h]; rfl
 ·have h:¬ 0≤gy t.attrs n:=by simpa [gy] using h
  refine aMD ?_
  refine R.kC (qw t.attrs (fun t=>t.was.any fun t=>eqS n t)) rfl rfl (.cons (.pd _) (.cons (Co.EP (S n) rfl Xp (by rintro es r ⟨x,_,rfl,rfl⟩; exact QK x n)) (.nil))) ?_
  refine aMD ?_
  refine R.rC ?_
  rw [kM,abQ h]; rfl
def fZ (a b:Attr):Bool:=eqS a.name b.name&&a.kind == b.kind
theorem Xv (a b:Attr):aA abo 218 [.pd (attr a),.pd (attr b)] [B (fZ a b)]:=by
 refine aA.mk Tryz.func218 rfl Xr (by simp [Tryz.ntmps218]) fun w G=>?_
 (refine bK [] 120 _ _ ?_; simp only [go_sem,Go.au.dR,gX,↓reduceIte,agk,PD.raw.injEq,akp,Tryz.results218])
 simp only [fZ,eqS]
 cases (a.name.toList == b.name.toList) <;> simp
def bG (a b:List Attr):Bool:=decide (a.length=b.length)&&(a.zip b).all fun p=>fZ p.1 p.2
theorem OX (a b:List Attr):aA abo 217 [.pd (attrs a),.pd (attrs b),.fn (fun es r=>∃ x y,es=[attr x,attr y]∧r=B (fZ x y))] [B (bG a b)]:=by
 refine aA.mk Tryz.func217 rfl aeQ (by simp [Tryz.ntmps217]) fun w G=>?_
 refine R.bound 0 (sz:=6) (ds:=a.map attr) rfl fun hl=>?_
 have hl:a.length≤9223372036854775807:=by simpa [maxLen] using hl
 refine aMF ?_
 refine ⟨fun h=>?_,fun h=>?_⟩
 ·have h:a.length≠b.length:=by simp at h; omega
  (refine bK [] 120 _ _ ?_; simp only [go_sem,Go.au.dR,gX,↓reduceIte,agk,PD.raw.injEq,akp,as1])
  simp [bG,h]
 have hlen:a.length=b.length:=by simp at h; omega
 refine aMF ?_
 refine R.fU (fun (k:Nat) s=>St.lp [0,1,2,10,11,12,13,14,15,16] [(17,.pd (I k))] [] [] [] [] s) (fun (k:Nat)=>k≤a.length∧(a.zip b).all (fun p=>fZ p.1 p.2)=((a.drop k).zip (b.drop k)).all fun p=>fZ p.1 p.2) (fun (k:Nat)=>a.length - k) (0) (⟨by omega,by simp⟩) ?_
 rintro k ⟨hk,hinv⟩
 refine aMF ?_
 refine ⟨fun h=>?_,fun h=>?_⟩
 ·have hlt:k<a.length:=by simpa using h
  have lQ:k<b.length:=by omega
  rw [drop_cons hlt,drop_cons lQ,List.zip_cons_cons,List.all_cons] at hinv
  apply aC; simp only [go_sem,getD_map,hlt,lQ]
  repeat refine ⟨by omega,?_⟩
  refine R.y rfl (aj (by (simp only [go_sem]))) (.nO 26 _ _ _ _ (B (fZ a[k] b[k])) rfl rfl rfl ⟨a[k],b[k],rfl,rfl⟩) ?_
  refine aMF ?_
  refine ⟨fun h2=>?_,fun h2=>?_⟩
  ·(refine bK [] 120 _ _ ?_; simp only [go_sem,Go.au.dR,gX,↓reduceIte,agk,PD.raw.injEq,akp,as1])
   have h2:fZ a[k] b[k]=false:=by simpa using h2
   rw [bG,hinv,h2]; simp
  ·apply aC; simp only [go_sem,wrapN (k:=k) (by omega)]
   have h2:fZ a[k] b[k]=true:=by simpa using h2
   refine R.fE (k+1) ⟨by omega,by rw [hinv,h2]; simp⟩
 ·have hge:¬ k<a.length:=by simpa using h
  (refine bK [] 120 _ _ ?_; simp only [go_sem,Go.au.dR,gX,↓reduceIte,agk,PD.raw.injEq,akp,as1])
  rw [bG,hinv,adG (by omega:a.length≤k)]; simp [hlen]
theorem OY (a b:List Attr):aA abo 145 [.pd (attrs a),.pd (attrs b)] [B (bG a b)]:=by
 refine aA.mk Tryz.func145 rfl aeM (by simp [Tryz.ntmps145]) fun w G=>?_
 refine aMD ?_
 refine R.kC (OX a b) rfl rfl (.cons (.pd _) (.cons (.pd _) (.cons (Co.func 218 _ Xr (by rintro es r ⟨x,y,rfl,rfl⟩; exact Xv x y)) (.nil)))) ?_
 refine aMD ?_
 refine R.rC ?_
 rfl
def zeroV (v:V):Bool:=v.kind == 0&&(v.n == 0&&v.text == ByteArray.empty)
def lZ (x:Side) (n:Int):Bool:=if x.var = -1 then decide (x.col=0)&&dF x.val else decide (x.var=0)&&decide (0≤x.col)&&decide (x.col<n)&&zeroV x.val
theorem Sz (x:Side) (n:Int):aA abo 252 [.pd (side x),.pd (I n)] [B (lZ x n)]:=by
 refine aA.mk Tryz.func252 rfl aeR (by simp [Tryz.ntmps252]) fun w G=>?_
 (refine bK [(14,.of (oI x.val))] 120 _ _ ?_; simp only [go_sem,Go.au.dR,gX,↓reduceIte,agk,PD.raw.injEq,akp,Tryz.results252])
 repeat' (refine BK (fun _=>?_) (fun _=>?_))
 all_goals (try simp_all [lZ,zeroV]) <;> (intros; omega)
def jS (t:vK) (n:Int):Bool:=decide (1≤t.op)&&decide (t.op≤4)&&lZ t.left n&&lZ t.right n&&(decide (t.left.var=0) || decide (t.right.var=0))
theorem ZR (t:vK) (n:Int):aA abo 191 [.pd (tst t),.pd (I n)] [B (jS t n)]:=by
 refine aA.mk Tryz.func191 rfl aeS (by simp [Tryz.ntmps191]) fun w G=>?_
 (refine bK [(17,.of (Sz t.left n)),(23,.of (Sz t.right n))] 120 _ _ ?_; simp only [go_sem,Go.au.dR,gX,↓reduceIte,agk,PD.raw.injEq,akp,Tryz.results191])
 repeat' (refine BK (fun _=>?_) (fun _=>?_))
 all_goals (try simp_all [jS]) <;> first | rfl | (intros; omega)
theorem Xw:aG abo 197:=fun _ _=>by kernel_rfl
def dO {α:Type} (l:List α):List Int→Option (List α)
 | []=>some []
 | c::cs=>if h:0≤c∧c.toNat<l.length then (dO l cs).map (l[c.toNat]'h.2 :: ·) else none
theorem DJ {α:Type} (l:List α) (c:Int):∀ (cs:List Int) (out:List α),dO l cs=some out→dO l (cs++[c])=if h:0≤c∧c.toNat<l.length then some (out++[l[c.toNat]'h.2]) else none
 | [],out,h=>by
  simp [dO] at h; subst h
  simp only [List.nil_append,dO,Option.map_some]
 | x::cs,out,h=>by
  simp only [dO] at h
  split at h
  ·rename_i hx
   cases e:dO l cs with
   | none=>simp [e] at h
   | some o=>
    simp [e] at h; subst h
    simp only [akj,dO,an5 hx,DJ l c cs o e]
    split <;> simp
  ·simp at h
theorem DK {α:Type} (l:List α) (c:Int) (hc:¬ (0≤c∧c.toNat<l.length)):∀ (cs ds:List Int),dO l (cs++c::ds)=none
 | [],ds=>by simp [dO,hc]
 | x::cs,ds=>by
  simp only [akj,dO,DK l c hc cs ds]
  split <;> simp
theorem tu {α:Type} (l:List α):∀ (cs:List Int) (out:List α),dO l cs=some out→out.length=cs.length
 | [],out,h=>by simp [dO] at h; simp [← h]
 | x::cs,out,h=>by
  simp only [dO] at h
  split at h
  ·cases e:dO l cs with
   | none=>simp [e] at h
   | some o=>simp [e] at h; subst h; simp [tu l cs o e]
  ·simp at h
abbrev NIL:PD:=.raw (.slice none 0 0)
def Jv (r:Option (List Attr)):List PD:=match r with | some l=>[attrs l,B true] | none=>[NIL,B false]
theorem ac7 (l:List Attr) (cols:List Int) (hc:cols.length≤1000000000) (hb:l.length≤9223372036854775807):aQ abo 197 [.pd (attrs l),.pd (ints cols)] (Jv (dO l cols)):=by
 refine aQ.mk Tryz.func197 rfl Xw (by simp [Tryz.ntmps197]) fun w G=>?_
 refine aMD ?_
 refine R.fJ 6 6 84 6 (by (simp only [go_sem])) rfl rfl ?_
 simp only [go_sem]
 refine aMD ?_
 refine R.fU (fun (k:Nat × List Attr) s=>St.lp [0,1,9,10,31] [(11,.pd (I k.1)),(6,.own 6)] [] [] [] [(6,⟨84,6,k.2.map attr⟩)] s) (fun (k:Nat × List Attr)=>k.1≤cols.length∧dO l (cols.take k.1)=some k.2) (fun (k:Nat × List Attr)=>cols.length - k.1) ((0,[])) (⟨by show 0≤_; omega,by simp [dO]⟩) ?_
 rintro ⟨k,out⟩ ⟨hk,hinv⟩
 have hk:k≤cols.length:=hk
 have hinv:dO l (cols.take k)=some out:=hinv
 have hol:=tu _ _ _ hinv
 rw [ako] at hol
 refine aMD ?_
 refine ⟨fun h=>?_,fun h=>?_⟩
 ·have hlt:k<cols.length:=by simpa using h
  have hsn:=DJ l cols[k] _ _ hinv
  rw [← abq hlt] at hsn
  apply aC; simp only [go_sem,getD_map,hlt]
  repeat refine ⟨by omega,?_⟩
  refine ⟨fun h2=>?_,fun h2=>?_⟩
  ·have hno:¬ (0≤cols[k]∧cols[k].toNat<l.length):=by
    split at h2 <;> simp at * <;> omega
   have hall:dO l cols=none:=by
    have e:=akz k cols
    rw [drop_cons hlt] at e
    rw [← e]; exact DK l _ hno _ _
   refine aMD ?_
   refine R.rW ?_
   rw [hall]; rfl
  ·have hyes:0≤cols[k]∧cols[k].toNat<l.length:=by
    split at h2 <;> simp at * <;> omega
   have hcast:((cols[k].toNat:Nat):Int)=cols[k]:=an7 hyes.1
   rw [an5 hyes] at hsn
   generalize cols[k].toNat=q at hcast hyes hsn
   rw [← hcast]
   have hq:=hyes.2
   apply aC; simp only [go_sem,getD_map,hq]
   repeat refine ⟨by omega,?_⟩
   refine R.aY 1000000000 80 rfl rfl (by (simp only [go_sem])) rfl rfl rfl rfl sl28 rfl su (by simp) (congrArg (Option.map adF) sD) rfl uK (by simp; omega) (by decide) (by decide) ?_
   apply ev8; simp only [go_sem,wrapN (k:=k) (by omega)]
   refine R.fE (k+1,out++[l[q]]) ⟨by show k+1≤_; omega,hsn⟩ (hm:=by show _<_; simp; omega) (l:=by (simp only [go_sem,acC]); all_goals (and_intros <;> rfl))
 ·have hge:¬ k<cols.length:=by simpa using h
  rw [abT (by omega)] at hinv
  refine aMD ?_
  refine R.bP 6 rfl rfl ?_
  simp only [go_sem]
  refine R.rW ?_
  rw [hinv]; rfl
def Plan.kind:Plan→Int | .mk k _ _ _ _ _ _ _=>k
def Plan.table:Plan→Int | .mk _ t _ _ _ _ _ _=>t
def Plan.kids:Plan→List Plan | .mk _ _ l _ _ _ _ _=>l
def Plan.tests:Plan→List vK | .mk _ _ _ l _ _ _ _=>l
def Plan.cols:Plan→List Int | .mk _ _ _ _ l _ _ _=>l
def Plan.col:Plan→Int | .mk _ _ _ _ _ c _ _=>c
def Plan.agg:Plan→Int | .mk _ _ _ _ _ _ c _=>c
def Plan.attrs:Plan→List Attr | .mk _ _ _ _ _ _ _ l=>l
theorem aF (p:Plan):plan p = .ak [I p.kind,I p.table,plans p.kids,qp p.tests,ints p.cols,I p.col,I p.agg,attrs p.attrs]:=by
 cases p; simp only [plan,ZL]; rfl
abbrev nM (p:Plan) (l:List bJ):PD:=.ak [I p.kind,I p.table,plans p.kids,qp p.tests,ints p.cols,I p.col,I p.agg,attrs p.attrs,Uf l]
theorem aeT:aG abo 251:=fun _ _=>by kernel_rfl
theorem aeU:aG abo 189:=fun _ _=>by kernel_rfl
theorem Gu (l:List vK) (p:vK→Bool):aA abo 251 [.pd (.list 12 (l.map tst)),.fn (decides tst p l)] [I (jE p l)]:=by
 refine aA.mk Tryz.func251 rfl aeT (by simp [Tryz.ntmps251]) fun w G=>?_
 refine R.bound 0 (sz:=12) (ds:=l.map tst) rfl fun hl=>?_
 have hl:l.length≤9223372036854775807:=by simpa [maxLen] using hl
 (refine aB 40 _ _ ?_; simp only [go_sem])
 refine R.fam (fun k:Nat=>⟨19,[(0,.pd (.list 12 (l.map tst))),(1,.fn (decides tst p l)),(7,.pd (I l.length)),(8,.pd (I k))],[],[],[],[]⟩) (fun k=>k≤l.length∧(l.take k).any p=false) (fun k=>l.length - k) 0 ⟨by omega,by simp⟩ (by simp only [go_sem,I]; rfl) ?_
 rintro k ⟨hk,hinv⟩
 (refine aB 60 _ _ ?_; simp only [go_sem,I])
 refine ⟨fun h=>?_,fun h=>?_⟩
 ·have hlt:k<l.length:=by simpa using h
  (refine aB 60 _ _ ?_; simp only [go_sem,I,getD_map,hlt])
  refine ⟨by omega,?_⟩
  refine R.y rfl (aj (by simp only [go_sem])) (.nO 11 _ _ _ _ (B (p l[k])) rfl rfl rfl ⟨l[k],ab5 hlt,rfl,rfl⟩) ?_
  (refine aB 60 _ _ ?_; simp only [go_sem,B])
  refine ⟨fun h2=>?_,fun h2=>?_⟩
  ·(refine aB 60 _ _ ?_; simp only [go_sem])
   refine R.dJ (vc:=True) ?_ trivial
   rw [jo hlt hinv h2]; rfl
  ·(refine aB 60 _ _ ?_; simp only [go_sem,wrapN (k:=k) (by omega)])
   refine R.jm (k+1) ⟨by omega,?_⟩ (by show _<_; omega) (by simp only [go_sem])
   rw [abq hlt,amO,hinv]; simpa using h2
 ·have hge:¬ k<l.length:=by simpa using h
  (refine aB 60 _ _ ?_; simp only [go_sem])
  refine R.dJ (vc:=True) ?_ trivial
  rw [abT (by omega)] at hinv
  rw [jL hinv]; rfl
theorem uP (l:List vK) (p:vK→Bool):aA abo 189 [.pd (.list 12 (l.map tst)),.fn (decides tst p l)] [B (l.any p)]:=by
 refine aA.mk Tryz.func189 rfl aeU (by simp [Tryz.ntmps189]) fun w G=>?_
 (refine aB 40 _ _ ?_; simp only [go_sem])
 refine R.jr (Gu l p) rfl rfl (.cons (.pd _) (.cons (.fn _) .nil)) (by simp) (by simp only [go_sem]) ?_
 (refine aB 40 _ _ ?_; simp only [go_sem,I])
 refine R.dJ (vc:=True) ?_ trivial
 rw [← yK]; rfl
theorem aeV:aG abo 187:=fun _ _=>by kernel_rfl
theorem Xx:aG abo 190:=fun _ _=>by kernel_rfl
theorem aeW:aG abo 122:=fun _ _=>by kernel_rfl
theorem Xy:aG abo 125:=fun _ _=>by kernel_rfl
theorem aeX:aG abo 129:=fun _ _=>by kernel_rfl
theorem aeY:aG abo 132:=fun _ _=>by kernel_rfl
theorem H9 (l:List Attr) (hl:l.length≤1000000000):fH abo 187 [.pd (attrs l)] [] [] (fun res M'=>res = .own ⟨84,6,l.map attr⟩∧M'=[]):=by
 refine fH.mk Tryz.func187 rfl aeV (by simp [Tryz.ntmps187]) fun w G=>?_
 refine aMD ?_
 refine fun b hb=>⟨fun h=>?_,fun h=>?_⟩
 ·refine aMD ?_
  refine R.fJ 2 2 84 6 (by (simp only [go_sem])) rfl rfl ?_
  simp only [go_sem]
  refine R.wZ rfl rfl rfl ⟨?_,rfl⟩
  rw [hb h]
 ·(refine aB 3 _ _ ?_; simp only [go_sem])
  refine R.empty 5 rfl rfl rfl rfl (by (simp only [go_sem])) sl28 (by rw [LC,su]; decide) (by rw [LC,sD]; rfl) ?_
  refine aMD ?_
  refine R.append rfl rfl (aj (by (simp only [go_sem]))) rfl rfl rfl (es:=l.map attr) rfl sl28 rfl su (by decide) (congrArg (Option.map adF) sD) rfl (fun i hi=>?_) ?_ ?_ ?_
  ·simp only [ace] at hi
   simp only [getD_map,hi]; rfl
  ·rw [LC,uK]; simp; omega
  ·simp [maxLen]; omega
  refine aMD ?_
  exact R.wZ rfl rfl rfl ⟨rfl,rfl⟩
theorem _root_.Go.au.RY.fD {C:Cx} {all:Array Oper} {tail:List Oper} {o:Oper} {l:List Oper} {k:List KI} {s:St} {f:FuncId} {xs:Array Operand} {ts:Array TypeId} {args:List SV} {rs:List PD} {b:Bool} {j t:Nat} {want c:Bool} (hg:o.guard=some (j,want)) (hj:(all[j]?).bind (·.dst)=some t) (hcc:s.get t = .pd (.raw (.bool c))) (ho:o.op = .call ⟨.value (.func f),xs,ts⟩)
  (h:(c == want)=true→iQ (c == want) (o.op.operands.toList.map (aW s))∧jl C.P s.var s.row (xs.toList.map (vJ s)) args b∧aA C.P f args rs) (hl:b=true→plain rs=true) (hd:fQ s o) (next:RY C all tail k l (s.put o.dst (.gd (c == want) (dN rs)))):RY C all tail k (o::l) s:=
 ⟨_,.inr (.inl ⟨j,want,t,c,_,hg,hj,.inl hcc,rfl,fun hw=>⟨(h hw).1,.call f xs ts args rs b ho (h hw).2.1 (h hw).2.2 hl⟩⟩),aj hd,next⟩
theorem ac8 (t:vK) (l:List Attr):aA abo 190 [.pd (tst t),.ref (attrs l) 0] [B (!jS t l.length)]:=by
 refine aA.mk Tryz.func190 rfl Xx (by simp [Tryz.ntmps190]) fun w G=>?_
 (refine bK [(7,.of (ZR t l.length))] 120 _ _ ?_; simp only [go_sem,Go.au.dR,gX,↓reduceIte,Tryz.results190])
def AA (p q:Plan):Bool:=!p.tests.isEmpty && !p.tests.any fun t=>!jS t q.attrs.length
theorem OZ (p q:Plan) (tl:List bJ) (hk:p.kids=[q]):aA abo 122 [.pd (nM p tl)] [attrs q.attrs,B (AA p q)]:=by
 refine aA.mk Tryz.func122 rfl aeW (by simp [Tryz.ntmps122]) fun w G=>?_
 simp only [nM,hk]
 apply aC; simp only [go_sem,afM,aF q]
 repeat refine ⟨by omega,?_⟩
 refine R.aO 16 80 mixed (by decide +kernel) ?_; simp only [go_sem]
 refine RY.fD (rs:=[B (p.tests.any fun t=>!jS t q.attrs.length)]) rfl rfl rfl rfl (fun _=>⟨by simp [iQ,Op.operands,Call.operands,aW,St.get,lk,SV.unbox],.cons (.pd _) (.cons (Co.EP (attrs q.attrs) rfl Xx (by rintro es r ⟨x,_,rfl,rfl⟩; exact ac8 x q.attrs)) .nil),uP p.tests (fun t=>!jS t q.attrs.length)⟩) (by simp [plain,PD.plain]) (by (simp only [go_sem])) ?_
 (refine aH 80 _ _ ?_; simp only [go_sem])
 refine aMD ?_
 refine R.rC ?_
 have e:AA p q=if decide ((p.tests.length:Int) > 0)=true then !(p.tests.any fun t=>!jS t q.attrs.length) else false:=by
  unfold AA; cases h:p.tests <;> simp
 rw [e]; rfl
theorem ND (p q:Plan) (tl:List bJ) (hk:p.kids=[q]) (hc:p.cols.length≤1000000000) (hb:q.attrs.length≤1000000000):aQ abo 125 [.pd (nM p tl)] (Jv (dO q.attrs p.cols)):=by
 have hp:=ac7 q.attrs p.cols hc (by omega)
 cases hpv:dO q.attrs p.cols with
 | none=>
  rw [hpv] at hp
  refine aQ.mk Tryz.func125 rfl Xy (by simp [Tryz.ntmps125]) fun w G=>?_
  simp only [nM,hk]
  refine aMF ?_
  refine R.aO 12 80 mixed (by decide +kernel) ?_; simp only [go_sem,afM,aF q]
  repeat refine ⟨by omega,?_⟩
  refine RY.kW (hp) rfl rfl (.cons (.pd _) (.cons (.pd _) (.nil))) ?_
  (refine aH 80 _ _ ?_; simp only [go_sem,Jv])
  refine aMD ?_
  refine R.rW ?_
  rfl
 | some l=>
  rw [hpv] at hp
  refine aQ.mk Tryz.func125 rfl Xy (by simp [Tryz.ntmps125]) fun w G=>?_
  simp only [nM,hk]
  refine aMF ?_
  refine R.aO 12 80 mixed (by decide +kernel) ?_; simp only [go_sem,afM,aF q]
  repeat refine ⟨by omega,?_⟩
  refine RY.kW (hp) rfl rfl (.cons (.pd _) (.cons (.pd _) (.nil))) ?_
  (refine aH 80 _ _ ?_; simp only [go_sem,Jv])
  refine aMD ?_
  refine R.rW ?_
  rfl
theorem both_ok (p q r:Plan) (tl:List bJ) (hk:p.kids=[q,r]):aA abo 129 [.pd (nM p tl)] [attrs q.attrs,B (bG q.attrs r.attrs)]:=by
 refine aA.mk Tryz.func129 rfl aeX (by simp [Tryz.ntmps129]) fun w G=>?_
 simp only [nM,hk]
 refine aMF ?_
 refine R.aO 19 80 mixed (by decide +kernel) ?_; simp only [go_sem,afM,Int.toNat_one,aF q,aF r]
 repeat refine ⟨by omega,?_⟩
 refine RY.kC (OY q.attrs r.attrs) rfl rfl (.cons (.pd _) (.cons (.pd _) (.nil))) ?_
 (refine aH 80 _ _ ?_; simp only [go_sem])
 refine aMD ?_
 refine R.rC ?_
 rfl
def Attr.named (a:Attr) (n:ByteArray):Attr:=⟨n,a.kind,a.was,a.dflt⟩
theorem Ia (a:Attr) (n:ByteArray):spl (attr a) 0 (S n)=attr (a.named n):=by
 unfold spl; rfl
def Jw (r:Option (List Attr)):List PD:=Jv r
def nU (p q:Plan):Option (List Attr):=
 if h:(0≤p.col∧p.col.toNat<q.attrs.length)∧p.attrs.length=q.attrs.length then
  some (q.attrs.set p.col.toNat ((q.attrs[p.col.toNat]'h.1.2).named (p.attrs[p.col.toNat]'(by omega)).name)) else none
theorem QL (p q:Plan) (tl:List bJ) (hk:p.kids=[q]) (hb:q.attrs.length≤1000000000):aQ abo 132 [.pd (nM p tl)] (Jw (nU p q)):=by
 refine aQ.mk Tryz.func132 rfl aeY (by simp [Tryz.ntmps132]) fun w G=>?_
 simp only [nM,hk]
 apply aC; simp only [go_sem,afM,aF q]
 repeat refine ⟨by omega,?_⟩
 refine R.fK (by rfl) 4 (by rfl) rfl rfl (aj (by (simp only [go_sem]))) (.cons (.pd _) .nil) (H9 q.attrs hb) (fun r m h=>by simp [lk] at h) (fun r h=>by simp at h) ?_
 rintro res M' ⟨rfl,rfl⟩ hh; clear hh
 simp only [Behind]
 refine aMF ?_
 refine ⟨fun h=>?_,fun h=>?_⟩
 ·have hno:nU p q=none:=by
   unfold nU; rw [apO]
   intro hh
   split at h <;> simp at * <;> omega
  rw [hno]
  refine aMD ?_
  refine R.rW ?_
  rfl
 ·have hyes:(0≤p.col∧p.col.toNat<q.attrs.length)∧p.attrs.length=q.attrs.length:=by
   split at h <;> simp at * <;> omega
  obtain ⟨n,hn⟩:=ana hyes.1.1
  have htn:p.col.toNat=n:=by omega
  have hq:n<q.attrs.length:=by omega
  have hq2:n<p.attrs.length:=by omega
  have hv:nU p q=some (q.attrs.set n (q.attrs[n].named p.attrs[n].name)):=by
   unfold nU; rw [an5 hyes]; simp only [htn]
  rw [hv]
  clear hv hyes h
  apply aC; simp only [go_sem,hn]
  refine R.aO 13 80 mixed (by decide +kernel) ?_; simp only [go_sem,getD_map,hq2]
  repeat refine ⟨by omega,?_⟩
  apply aC; simp only [go_sem,ano,ace]
  repeat refine ⟨by omega,?_⟩
  have e:(q.attrs.map attr).set n (spl ((q.attrs.map attr).getD n (.ak [])) 0 (S p.attrs[n].name))=(q.attrs.set n (q.attrs[n].named p.attrs[n].name)).map attr:=by
   rw [getD_map _ _ _ hq,apq,Ia]
  apply ev8; simp only [go_sem,e]
  refine R.bP 4 rfl rfl ?_
  simp only [go_sem]
  refine R.rW ?_
  rfl
theorem aeZ:aG abo 119:=fun _ _=>by kernel_rfl
theorem ae0:aG abo 127:=fun _ _=>by kernel_rfl
def Ib (l ps:List Attr) (i:Nat) (a:Attr):Attr:=match ps[i]? with | some b=>if kM l b.name=i then a.named b.name else a | none=>a
def lT (l ps:List Attr) (k:Nat):List Attr:=l.mapIdx fun i a=>if i<k then Ib l ps i a else a
def vZ (l ps:List Attr):List Attr:=l.mapIdx (Ib l ps)
theorem Ic (l ps:List Attr) (k:Nat):(lT l ps k).length=l.length:=by simp [lT]
theorem Xz (l ps:List Attr):lT l ps 0=l:=by
 apply amI <;> simp [lT]
theorem ZT (l ps:List Attr) (k:Nat) (h:min l.length ps.length≤k):lT l ps k=vZ l ps:=by
 apply amI
 ·simp [lT,vZ]
 ·intro i h1 h2
  have hi:i<l.length:=by simpa [vZ] using h2
  simp only [lT,vZ,aru]
  by_cases hk:i<k
  ·simp [hk]
  ·have:ps[i]? = none:=amG (by omega)
   simp [hk,Ib,this]
theorem ac9 (l ps:List Attr) (k:Nat) (h2:k<ps.length) (h:kM l ps[k].name≠k):lT l ps (k+1)=lT l ps k:=by
 apply amI
 ·simp [lT]
 ·intro i h1 _
  simp only [lT,aru]
  by_cases hk:i<k
  ·rw [ab8 hk,ab8 (by omega)]
  ·rw [abQ hk]
   by_cases he:i=k
   ·subst he
    rw [ab8 (by omega)]; simp [Ib,ajW h2,h]
   ·rw [abQ (by omega)]
theorem ZU (l ps:List Attr) (k:Nat) (h1:k<l.length) (h2:k<ps.length) (h:kM l ps[k].name=k):lT l ps (k+1)=(lT l ps k).set k (l[k].named ps[k].name):=by
 apply amI
 ·simp [lT]
 ·intro i h3 _
  rw [List.getElem_set]
  simp only [lT,aru]
  by_cases he:k=i
  ·subst he
   rw [ab8 (by omega),ab8 rfl]; simp [Ib,ajW h2,h]
  ·rw [abQ he]
   by_cases hk:i<k
   ·rw [ab8 hk,ab8 (by omega)]
   ·rw [abQ hk,abQ (by omega)]
theorem ZV (l ps:List Attr) (k:Nat) (h1:k<l.length):(lT l ps k)[k]'(by rw [Ic]; exact h1)=l[k]:=by simp [lT]
theorem ZW (l ps:List Attr) (k:Nat) (h1:k<l.length) (h2:k<ps.length) (h:kM l ps[k].name=k):((lT l ps k).map attr).set k (spl (((lT l ps k).map attr).getD k (.ak [])) 0 (S ps[k].name))=(lT l ps (k+1)).map attr:=by
 rw [getD_map _ _ _ (by rw [Ic]; exact h1),ZV l ps k h1,Ia,ZU l ps k h1 h2 h,apq]
def mM (p:Plan) (tl:List bJ):Option (List Attr):=if h:0≤p.table∧p.table.toNat<tl.length then some (vZ (tl[p.table.toNat]'h.2).attrs p.attrs) else none
theorem ZX (p:Plan) (tl:List bJ) (hb:∀ t∈tl,t.attrs.length≤1000000000):aQ abo 119 [.pd (nM p tl)] (Jw (mM p tl)):=by
 refine aQ.mk Tryz.func119 rfl aeZ (by simp [Tryz.ntmps119]) fun w G=>?_
 simp only [nM]
 refine aMF ?_
 refine ⟨fun h=>?_,fun h=>?_⟩
 ·have hno:mM p tl=none:=by
   unfold mM; rw [apO]
   intro hh
   split at h <;> simp at * <;> omega
  rw [hno]
  refine aMD ?_
  refine R.rW ?_
  rfl
 ·have hyes:0≤p.table∧p.table.toNat<tl.length:=by
   split at h <;> simp at * <;> omega
  obtain ⟨n,hn⟩:=ana hyes.1
  have htn:p.table.toNat=n:=by omega
  have hq:n<tl.length:=by omega
  have hv:mM p tl=some (vZ tl[n].attrs p.attrs):=by
   unfold mM; rw [an5 hyes]; simp only [htn]
  rw [hv]
  clear hv hyes h
  have hbn:=hb tl[n] (ab5 hq)
  generalize htt:tl[n]=t at hbn
  apply aC; simp only [go_sem,hn,getD_map,hq,htt]
  repeat refine ⟨by omega,?_⟩
  refine R.fK (by rfl) 5 (by rfl) rfl rfl (aj (by (simp only [go_sem]))) (.cons (.pd _) .nil) (H9 t.attrs hbn) (fun r m h=>by simp [lk] at h) (fun r h=>by simp at h) ?_
  rintro res M' ⟨rfl,rfl⟩ hh; clear hh
  simp only [Behind]
  have hm:(if (p.attrs.length:Int)<(t.attrs.length:Int) then (p.attrs.length:Int) else (t.attrs.length:Int))=((min t.attrs.length p.attrs.length:Nat):Int):=by split <;> omega
  have hz:t.attrs.map attr=(lT t.attrs p.attrs 0).map attr:=by rw [Xz]
  apply aC; simp only [go_sem,hm]
  refine R.fU (fun (k:Nat) s=>St.lp [0,1,2,3,4,5,7,8,9,10,11,12,13,14,15,16,17,18,19,20,21,22,23,24,25,26,27,28,29,30,31,32,33,34,35,36,37,38,65] [(39,.pd (I k)),(5,.own 5)] [1,4] [] [] [(5,⟨84,6,(lT t.attrs p.attrs k).map attr⟩)] s) (fun (k:Nat)=>k≤min t.attrs.length p.attrs.length) (fun (k:Nat)=>min t.attrs.length p.attrs.length - k) (0) (by omega) ?_ (by (simp only [go_sem,hz]); all_goals (and_intros <;> rfl))
  intro k hk
  refine aMF ?_
  refine ⟨fun h=>?_,fun h=>?_⟩
  ·have hlt:k<min t.attrs.length p.attrs.length:=by simpa using h
   have h1:k<t.attrs.length:=by omega
   have h2:k<p.attrs.length:=by omega
   refine aMF ?_
   refine R.aO 10 80 mixed (by decide +kernel) ?_; simp only [go_sem,getD_map,h2]
   repeat refine ⟨by omega,?_⟩
   refine RY.kC (Ul t p.attrs[k].name) rfl rfl (.cons (.pd _) (.cons (.pd _) (.nil))) ?_
   (refine aH 80 _ _ ?_; simp only [go_sem])
   refine aMF ?_
   have hkl:k<(lT t.attrs p.attrs k).length:=by rw [Ic]; exact h1
   refine ⟨fun h3=>?_,fun h3=>?_⟩
   ·have h3:kM t.attrs p.attrs[k].name=k:=by simpa using h3
    have hs:=ZW t.attrs p.attrs k h1 h2 h3
    apply aC; simp only [go_sem,getD_map,h2,hs,wrapN (k:=k) (by omega)]
    repeat refine ⟨by omega,?_⟩
    refine R.fE (k+1) (by omega) (l:=by (simp only [go_sem]); all_goals (and_intros <;> rfl))
   ·have h3:kM t.attrs p.attrs[k].name≠k:=by simpa using h3
    have hs:=ac9 t.attrs p.attrs k h2 h3
    apply aC; simp only [go_sem,wrapN (k:=k) (by omega)]
    refine R.fE (k+1) (by omega) (l:=by (simp only [go_sem,hs]); all_goals (and_intros <;> rfl))
  ·have hge:¬ k<min t.attrs.length p.attrs.length:=by simpa using h
   rw [ZT t.attrs p.attrs k (by omega)]
   refine aMD ?_
   refine R.bP 5 rfl rfl ?_
   simp only [go_sem]
   refine R.rW ?_
   rfl
theorem ada {α:Type} (p:α→Bool) (l:List α):jE p l<l.length:=by
 unfold jE
 cases h:l.findIdx? p with
 | none=>simp; omega
 | some i=>
  rw [akB] at h
  obtain ⟨h1,_⟩:=h
  simp; exact h1
def iC (a:List Attr):List Attr→List Attr→Option (List Attr)
 | out,[]=>some out
 | out,b::bs=>if gy a b.name<0 then iC a (out++[b]) bs else if (out.map (·.kind)).getD (gy a b.name).toNat 0≠b.kind then none else iC a out bs
theorem adb (p q r:Plan) (tl:List bJ) (hk:p.kids=[q,r]) (hb:q.attrs.length≤100000000) (hb2:r.attrs.length≤100000000):aQ abo 127 [.pd (nM p tl)] (Jw (iC q.attrs q.attrs r.attrs)):=by
 refine aQ.mk Tryz.func127 rfl ae0 (by simp [Tryz.ntmps127]) fun w G=>?_
 simp only [nM,hk]
 apply aC; simp only [go_sem,afM,aF q,aF r]
 repeat refine ⟨by omega,?_⟩
 refine R.fK (by rfl) 4 (by rfl) rfl rfl (aj (by (simp only [go_sem]))) (.cons (.pd _) .nil) (H9 q.attrs (by omega)) (fun r m h=>by simp [lk] at h) (fun r h=>by simp at h) ?_
 rintro res M' ⟨rfl,rfl⟩ hh; clear hh
 simp only [Behind]
 apply aC; simp only [go_sem,Int.toNat_one,aF q,aF r]
 repeat refine ⟨by omega,?_⟩
 refine R.fU (fun (k:Nat × List Attr) s=>St.lp [0,1,8,9,10,11,12,13,15,16,17,18,19,20,21,52] [(22,.pd (I k.1)),(4,.own 4)] [1] [] [] [(4,⟨84,6,k.2.map attr⟩)] s) (fun (k:Nat × List Attr)=>k.1≤r.attrs.length∧iC q.attrs q.attrs r.attrs=iC q.attrs k.2 (r.attrs.drop k.1)∧q.attrs.length≤k.2.length∧k.2.length≤q.attrs.length+k.1) (fun (k:Nat × List Attr)=>r.attrs.length - k.1) ((0,q.attrs)) (⟨by show 0≤_; omega,by simp,by simp,by simp⟩) ?_
 rintro ⟨k,out⟩ ⟨hk,hinv,hl1,hl2⟩
 have hk:k≤r.attrs.length:=hk
 have hinv:iC q.attrs q.attrs r.attrs=iC q.attrs out (r.attrs.drop k):=hinv
 have hl1:q.attrs.length≤out.length:=hl1
 have hl2:out.length≤q.attrs.length+k:=hl2
 refine aMF ?_
 refine ⟨fun h=>?_,fun h=>?_⟩
 ·have hlt:k<r.attrs.length:=by simpa using h
  have hcl:gy q.attrs r.attrs[k].name<q.attrs.length:=ada _ _
  rw [drop_cons hlt,iC] at hinv
  apply aC; simp only [go_sem,getD_map,hlt]
  repeat refine ⟨by omega,?_⟩
  refine R.aO 8 80 mixed (by decide +kernel) ?_; simp only [go_sem,afM,aF q,aF r]
  repeat refine ⟨by omega,?_⟩
  refine R.kC (LQ q.attrs r.attrs[k].name) rfl rfl (.cons (.pd _) (.cons (.pd _) (.nil))) ?_
  generalize gy q.attrs r.attrs[k].name=c at hcl hinv
  refine aMF ?_
  refine ⟨fun h2=>?_,fun h2=>?_⟩
  ·have h2:c<0:=by simpa using h2
   rw [ab8 h2] at hinv
   refine aMF ?_
   refine R.aY (d:=attr r.attrs[k]) 1000000000 80 rfl rfl (by (simp only [go_sem])) rfl rfl rfl rfl sl28 rfl su (by simp) (congrArg (Option.map adF) sD) rfl uK (by simp; omega) (by decide) (by decide) ?_
   apply ev8; simp only [go_sem,wrapN (k:=k) (by omega)]
   refine R.fE (k+1,out++[r.attrs[k]]) ⟨by show k+1≤_; omega,hinv,by simp; omega,by simp; omega⟩ (hm:=by show _<_; simp; omega) (l:=by (simp only [go_sem,acC]); all_goals (and_intros <;> rfl))
  ·have h2:¬ c<0:=by simpa using h2
   rw [abQ h2] at hinv
   obtain ⟨n,rfl⟩:=ana (Int.not_lt.1 h2)
   have hno:n<out.length:=by omega
   have hgo:(out.map (·.kind)).getD n 0=out[n].kind:=by simp [hno]
   rw [ano,hgo] at hinv
   refine aMF ?_
   refine R.aO 7 80 mixed (by decide +kernel) ?_; simp only [go_sem,getD_map,hno]
   repeat refine ⟨by omega,?_⟩
   refine aMF ?_
   refine ⟨fun h3=>?_,fun h3=>?_⟩
   ·have h3:out[n].kind≠r.attrs[k].kind:=by simpa using h3
    rw [ab8 h3] at hinv
    rw [hinv]
    refine aMD ?_
    refine R.rW ?_
    rfl
   ·have h3:¬ out[n].kind≠r.attrs[k].kind:=by simpa using h3
    rw [abQ h3] at hinv
    apply aC; simp only [go_sem,wrapN (k:=k) (by omega)]
    refine R.fE (k+1,out) ⟨by show k+1≤_; omega,hinv,hl1,by show out.length≤_+(k+1); omega⟩ (by show _<_; simp; omega)
 ·have hge:¬ k<r.attrs.length:=by simpa using h
  rw [adG (by omega),iC] at hinv
  rw [hinv]
  refine aMD ?_
  refine R.bP 4 rfl rfl ?_
  simp only [go_sem]
  refine R.rW ?_
  rfl
theorem ae1:aG abo 117:=fun _ _=>by kernel_rfl
theorem Um (p:Plan):aA abo 117 [.pd (plan p)] [.ak [I p.kind,I p.table,plans p.kids,qp p.tests,NIL,I p.col,I p.agg,attrs p.attrs]]:=by
 rw [aF p]
 refine aA.mk Tryz.func117 rfl ae1 (by simp [Tryz.ntmps117]) fun w G=>?_
 (refine bK [] 120 _ _ ?_; simp only [go_sem,Go.au.dR,gX,↓reduceIte,Tryz.results117])
theorem ae2:aG abo 118:=fun _ _=>by kernel_rfl
theorem DL (p:Plan):aA abo 118 [.pd (plan p)] [.ak [I p.kind,I p.table,plans p.kids,qp p.tests,ints p.cols,I p.col,I p.agg,attrs p.attrs]]:=by
 rw [aF p]
 refine aA.mk Tryz.func118 rfl ae2 (by simp [Tryz.ntmps118]) fun w G=>?_
 (refine bK [] 120 _ _ ?_; simp only [go_sem,Go.au.dR,gX,↓reduceIte,Tryz.results118])
theorem ae3:aG abo 121:=fun _ _=>by kernel_rfl
theorem Un (p:Plan):aA abo 121 [.pd (plan p)] [.ak [I p.kind,I 0,plans p.kids,qp p.tests,ints p.cols,I p.col,I p.agg,attrs p.attrs]]:=by
 rw [aF p]
 refine aA.mk Tryz.func121 rfl ae3 (by simp [Tryz.ntmps121]) fun w G=>?_
 (refine bK [] 120 _ _ ?_; simp only [go_sem,Go.au.dR,gX,↓reduceIte,Tryz.results121])
theorem ae4:aG abo 124:=fun _ _=>by kernel_rfl
theorem Uo (p:Plan):aA abo 124 [.pd (plan p)] [.ak [I p.kind,I p.table,plans p.kids,NIL,ints p.cols,I p.col,I p.agg,attrs p.attrs]]:=by
 rw [aF p]
 refine aA.mk Tryz.func124 rfl ae4 (by simp [Tryz.ntmps124]) fun w G=>?_
 (refine bK [] 120 _ _ ?_; simp only [go_sem,Go.au.dR,gX,↓reduceIte,Tryz.results124])
theorem ae5:aG abo 134:=fun _ _=>by kernel_rfl
theorem Ur (p:Plan):aA abo 134 [.pd (plan p)] [.ak [I p.kind,I p.table,plans p.kids,qp p.tests,ints p.cols,I 0,I p.agg,attrs p.attrs]]:=by
 rw [aF p]
 refine aA.mk Tryz.func134 rfl ae5 (by simp [Tryz.ntmps134]) fun w G=>?_
 (refine bK [] 120 _ _ ?_; simp only [go_sem,Go.au.dR,gX,↓reduceIte,Tryz.results134])
theorem ae6:aG abo 137:=fun _ _=>by kernel_rfl
theorem Us (p:Plan):aA abo 137 [.pd (plan p)] [.ak [I p.kind,I p.table,plans p.kids,qp p.tests,NIL,I 0,I 0,attrs p.attrs]]:=by
 rw [aF p]
 refine aA.mk Tryz.func137 rfl ae6 (by simp [Tryz.ntmps137]) fun w G=>?_
 (refine bK [] 120 _ _ ?_; simp only [go_sem,Go.au.dR,gX,↓reduceIte,Tryz.results137])
theorem ain:aG abo 73:=fun _ _=>by kernel_rfl
abbrev F (n:Nat):PD:=.raw (.func (.func n) #[] #[])
abbrev key (n:Int):Value:=.int .i64 n
def kX:lq:=[(key 1,.ak [I 0,F 119,F 120,F 121]),(key 2,.ak [I 1,F 122,F 123,F 124]),(key 3,.ak [I 1,F 125,F 126,F 117]),(key 4,.ak [I 2,F 127,F 128,F 118]),
 (key 5,.ak [I 2,F 129,F 130,F 118]),(key 6,.ak [I 2,F 129,F 131,F 118]),(key 7,.ak [I 1,F 132,F 133,F 134]),(key 8,.ak [I 1,F 135,F 136,F 137])]
theorem ZY:aQ abo 73 [] [.mp (kX.map (·.1)) (kX.map (·.2))]:=by
 refine aQ.mk Tryz.func73 rfl ain (by simp [Tryz.ntmps73]) fun w G=>?_
 refine aMD ?_
 refine R.makeMap rfl rfl rfl (by (simp only [go_sem])) fun r hr hr0=>?_
 clear hr0
 refine aMD ?_
 refine R.jR (.inr rfl) rfl (aj (by (simp only [go_sem]))) rfl (by (simp only [go_sem]); try rfl) rfl rfl uM rfl (by simp [bY]) (.inl hr) ?_
 apply ev8; simp only [go_sem,fV]
 refine R.jR (.inr rfl) rfl (aj (by (simp only [go_sem]))) rfl (by (simp only [go_sem]); try rfl) rfl rfl uM rfl (by simp [bY]) (.inl hr) ?_
 apply ev8; simp only [go_sem,fV]
 refine R.jR (.inr rfl) rfl (aj (by (simp only [go_sem]))) rfl (by (simp only [go_sem]); try rfl) rfl rfl uM rfl (by simp [bY]) (.inl hr) ?_
 apply ev8; simp only [go_sem,fV]
 refine R.jR (.inr rfl) rfl (aj (by (simp only [go_sem]))) rfl (by (simp only [go_sem]); try rfl) rfl rfl uM rfl (by simp [bY]) (.inl hr) ?_
 apply ev8; simp only [go_sem,fV]
 refine R.jR (.inr rfl) rfl (aj (by (simp only [go_sem]))) rfl (by (simp only [go_sem]); try rfl) rfl rfl uM rfl (by simp [bY]) (.inl hr) ?_
 apply ev8; simp only [go_sem,fV]
 refine R.jR (.inr rfl) rfl (aj (by (simp only [go_sem]))) rfl (by (simp only [go_sem]); try rfl) rfl rfl uM rfl (by simp [bY]) (.inl hr) ?_
 apply ev8; simp only [go_sem,fV]
 refine R.jR (.inr rfl) rfl (aj (by (simp only [go_sem]))) rfl (by (simp only [go_sem]); try rfl) rfl rfl uM rfl (by simp [bY]) (.inl hr) ?_
 apply ev8; simp only [go_sem,fV]
 refine R.jR (.inr rfl) rfl (aj (by (simp only [go_sem]))) rfl (by (simp only [go_sem]); try rfl) rfl rfl uM rfl (by simp [bY]) (.inl hr) ?_
 apply ev8; simp only [go_sem,fV]
 refine R.EJ r kX (by simp [St.map,lk,kX]) hr ?_
 simp only [go_sem,SV.thaw,PD.thaw,fV]
 refine R.rW ?_
 rfl
end Go.Proofs.Z
end
section
namespace Go.Proofs.Z
open Go Go.au Go.Proofs
set_option maxRecDepth 10000
set_option maxHeartbeats 4000000
theorem kY (p:Plan):(plan p).width=8:=by rw [aF]; rfl
theorem mZ (p:Plan):(plan p).iF=true:=by rw [aF]; rfl
theorem ae7:aG abo 147:=fun _ _=>by kernel_rfl
theorem aio:aG abo 84:=fun _ _=>by kernel_rfl
theorem EY (l:List Plan) (p:Plan→Bool):aA abo 147 [.pd (.list 8 (l.map plan)),.fn (decides plan p l)] [I (jE p l)]:=by
 refine aA.mk Tryz.func147 rfl ae7 (by simp [Tryz.ntmps147]) fun w G=>?_
 refine R.bound 0 (sz:=8) (ds:=l.map plan) rfl fun hl=>?_
 have hl:l.length≤9223372036854775807:=by simpa [maxLen] using hl
 (refine aB 40 _ _ ?_; simp only [go_sem])
 refine R.fam (fun k:Nat=>⟨19,[(0,.pd (.list 8 (l.map plan))),(1,.fn (decides plan p l)),(7,.pd (I l.length)),(8,.pd (I k))],[],[],[],[]⟩) (fun k=>k≤l.length∧(l.take k).any p=false) (fun k=>l.length - k) 0 ⟨by omega,by simp⟩ (by simp only [go_sem,I]; rfl) ?_
 rintro k ⟨hk,hinv⟩
 (refine aB 60 _ _ ?_; simp only [go_sem,I])
 refine ⟨fun h=>?_,fun h=>?_⟩
 ·have hlt:k<l.length:=by simpa using h
  (refine aB 60 _ _ ?_; simp only [go_sem,getD_map,hlt,kY,mZ])
  refine ⟨by omega,?_⟩
  refine R.y rfl (aj (by simp only [go_sem])) (.nO 11 _ _ _ _ (B (p l[k])) rfl rfl rfl ⟨l[k],ab5 hlt,rfl,rfl⟩) ?_
  (refine aB 60 _ _ ?_; simp only [go_sem,B])
  refine ⟨fun h2=>?_,fun h2=>?_⟩
  ·(refine aB 60 _ _ ?_; simp only [go_sem])
   refine R.dJ (vc:=True) ?_ trivial
   rw [jo hlt hinv h2]; rfl
  ·(refine aB 60 _ _ ?_; simp only [go_sem,wrapN (k:=k) (by omega)])
   refine R.jm (k+1) ⟨by omega,?_⟩ (by show _<_; omega) (by simp only [go_sem])
   rw [abq hlt,amO,hinv]; simpa using h2
 ·have hge:¬ k<l.length:=by simpa using h
  (refine aB 60 _ _ ?_; simp only [go_sem])
  refine R.dJ (vc:=True) ?_ trivial
  rw [abT (by omega)] at hinv
  rw [jL hinv]; rfl
theorem BM (l:List Plan) (p:Plan→Bool):aA abo 84 [.pd (.list 8 (l.map plan)),.fn (decides plan p l)] [B (l.any p)]:=by
 refine aA.mk Tryz.func84 rfl aio (by simp [Tryz.ntmps84]) fun w G=>?_
 (refine aB 40 _ _ ?_; simp only [go_sem])
 refine R.jr (EY l p) rfl rfl (.cons (.pd _) (.cons (.fn _) .nil)) (by simp) (by simp only [go_sem]) ?_
 (refine aB 40 _ _ ?_; simp only [go_sem,I])
 refine R.dJ (vc:=True) ?_ trivial
 rw [← yK]; rfl
theorem abX:aG abo 38:=fun _ _=>by kernel_rfl
mutual
def grp:Plan→Bool
 | .mk k _ kids _ _ _ _ _=>k == 8 || Ut kids
def Ut:List Plan→Bool
 | []=>false
 | p::l=>grp p || Ut l
end
theorem O1:∀ l:List Plan,Ut l=l.any grp
 | []=>rfl
 | p::l=>by rw [Ut,O1 l]; rfl
theorem O4 (p:Plan):grp p=(p.kind == 8 || p.kids.any grp):=by
 cases p; rw [grp,O1]; rfl
theorem Gh {p x:Plan} (h:x∈p.kids):SizeOf.sizeOf x<SizeOf.sizeOf p:=by
 cases p
 have:=List.sizeOf_lt_of_mem h
 simp only [Plan.kids] at this
 simp only [Plan.mk.sizeOf_spec]; omega
theorem LU:∀ (n:Nat) (p:Plan),SizeOf.sizeOf p≤n→aA abo 38 [.pd (plan p)] [B (grp p)]
 | 0,p,h=>by cases p; simp at h
 | n+1,p,h=>by
  have ih:∀ x∈p.kids,aA abo 38 [.pd (plan x)] [B (grp x)]:=fun x hx=>LU n x (by have:=Gh hx; omega)
  rw [aF p]
  refine aA.mk Tryz.func38 rfl abX (by simp [Tryz.ntmps38]) fun w G=>?_
  refine aMD ?_
  refine R.fD (rs:=[B (p.kids.any grp)]) rfl rfl rfl rfl (fun _=>⟨by simp [iQ,Op.operands,Call.operands,aW,St.get,lk,SV.unbox],.cons (.pd _) (.cons (Co.func 38 _ abX (by rintro es r ⟨x,hx,rfl,rfl⟩; exact ih x hx)) .nil),BM p.kids grp⟩) (by simp [plain,PD.plain]) (by (simp only [go_sem])) ?_
  refine aMD ?_
  refine R.rC ?_
  have e:grp p=if (p.kind == 8)=true then true else p.kids.any grp:=by
   rw [O4]; cases (p.kind == 8) <;> simp
  rw [e]; rfl
theorem Uu (p:Plan):aA abo 38 [.pd (plan p)] [B (grp p)]:=LU _ p (agM _)
end Go.Proofs.Z
end
section
namespace Go.Proofs.Z
open Go Go.au Go.Proofs
set_option maxRecDepth 10000
set_option maxHeartbeats 4000000
theorem ae8:aG abo 157:=fun _ _=>by kernel_rfl
abbrev XA:Value:=.iface 40 (.int .i64 3)
theorem KC (n m:Int):fH abo 157 [.pd (I n),.pd (I m)] [] [] (fun res M'=>M'=[]∧if n≤m then res = .ret [] else res = .xK XA):=by
 refine fH.mk Tryz.func157 rfl ae8 (by simp [Tryz.ntmps157]) fun w G=>?_
 refine aMD ?_
 refine ⟨fun h=>?_,fun h=>?_⟩
 ·have h:¬ n≤m:=by simpa using h
  refine aMD ?_
  refine R.xK rfl rfl rfl ⟨rfl,?_⟩
  rw [abQ h]
 ·have h:n≤m:=by simpa using h
  refine aMD ?_
  refine R.TQ (vc:=True) [] rfl trivial ⟨rfl,?_⟩ (fun r m h=>by simp [lk] at h)
  rw [ab8 h]
end Go.Proofs.Z
end
section
namespace Go.au
def fO (L:Array Bool):Nat:=(L.toList.zipIdx).foldl (fun m p=>if p.1 then m ||| 2 ^ p.2 else m) 0
def XB (all:Array Oper) (m i:Nat):Bool:=!m.testBit i&&match all[i]? with | some o=>o.after.toList.all fun e=>!Region.binds .any e || m.testBit e.on | none=>false
def uQ (all:Array Oper) (es:List (Nat × Nat)):Bool:=
 true&&(0::es.map fun p=>p.1 ||| 2 ^ p.2).all fun m=>(List.range all.size).all fun i=>!XB all m i || es.contains (m,i)
theorem LV (j:Nat):∀ (l:List Bool) (n m:Nat),((l.zipIdx n).foldl (fun m p=>if p.1 then m ||| 2 ^ p.2 else m) m).testBit j=(m.testBit j || (decide (n≤j)&&(l.getD (j - n) false)))
 | [],n,m=>by simp
 | b::l,n,m=>by
  simp only [List.zipIdx_cons,List.foldl_cons]
  rw [LV j l (n+1)]
  by_cases h:j=n
  ·subst h
   cases b with
   | false=>simp; intro h; omega
   | true=>simp
  ·have e:(if b=true then m ||| 2 ^ n else m).testBit j=m.testBit j:=by
    cases b
    ·simp
    ·simp [arx,anj h]
   rw [e]
   by_cases h2:n≤j
   ·have h3:n+1≤j:=by omega
    have h4:j - n=(j - (n+1))+1:=by omega
    simp only [h2,h3,aoM,aj1,h4,aoD]
   ·have h3:¬ n+1≤j:=by omega
    simp [h2,h3]
theorem lH (L:Array Bool) (j:Nat):(fO L).testBit j=L.getD j false:=by
 unfold fO
 rw [LV j L.toList 0 0]
 simp [ab1,abp]
section
variable {C:Cx} {s:St} {all:Array Oper} {k:List KI}
theorem R.abY {id:Nat} (T:Nat→St) (es:List (Nat × Nat)) (full:Nat) (hm:C.P.follows .mixedOrders=true) (hE:(all.toList.zipIdx).all (fun p=>uq p.2 p.1)=true) (hT:uQ all es=true) (hf:fO (Array.replicate all.size true)=full)
  (h0:R C (.code (.region id all true)::k) (T 0)→R C (.code (.region id all true)::k) s)
  (step:∀ p∈es,R C (.ops all ((all.toList.drop p.2).take 1) :: .aU (fun st=>st=T (p.1 ||| 2 ^ p.2))::k) (T p.1)) (done:R C k (T full)):R C (.code (.region id all true)::k) s:=by
 refine h0 ?_
 unfold uQ at hT
 simp only [aj0] at hT
 have hT:=(agi.1 hT.2)
 refine R.TM hm hE (fun L st=>st=T (fO L)∧fO L∈(0::es.map fun p=>p.1 ||| 2 ^ p.2)) ?_ ?_ ?_
 ·have:fO (Array.replicate all.size false)=0:=by
   apply ap2
   intro j
   rw [lH]; simp [Array.getD]
  exact ⟨by rw [this],by rw [this]; exact adX ..⟩
 ·rintro L st i o hs ho hun hall ⟨rfl,hmem⟩
  have hi:=(acH.1 ho).1
  have hen:XB all (fO L) i=true:=by
   unfold XB
   rw [lH,hun,ho]
   simp only [apl,aj1,agi]
   intro e he
   rw [lH]
   cases hb:Region.binds .any e with
   | false=>rfl
   | true=>rw [hall e (by simpa using he) hb]; rfl
  have hin:=(agi.1 (hT _ hmem)) i (by simpa using hi)
  rw [hen] at hin
  have hin:(fO L,i)∈es:=by simpa using hin
  have hst:=step _ hin
  have hL:fO (L.setIfInBounds i true)=fO L ||| 2 ^ i:=by
   apply ap2
   intro j
   rw [lH,arx,lH,arn]
   by_cases c:i=j
   ·subst c; rw [oV (by rw [hs]; exact hi)]; simp
   ·rw [getD_set_ne false c]; simp [c]
  have ho1:(all.toList.drop i).take 1=[o]:=by
   have:all.toList[i]? = some o:=by simpa using ho
   obtain ⟨h1,h2⟩:=ape.1 this
   rw [aol h1,h2]; rfl
  simp only [ho1] at hst
  have:(fun st=>st=T (fO L ||| 2 ^ i))=fun st=>st=T (fO (L.setIfInBounds i true)):=by rw [hL]
  rw [this] at hst
  intro a w E g
  have h1:=hst a w E g
  simp only [fin] at h1 ⊢
  have hq:∀ e a w,fin C (.aU (fun st=>st=T (fO (L.setIfInBounds i true)))::k) e a w→fin C (.aU (fun st=>st=T (fO (L.setIfInBounds i true))∧fO (L.setIfInBounds i true)∈(0::es.map fun p=>p.1 ||| 2 ^ p.2))::k) e a w:=by
   intro e a w h
   cases e with
   | normal=>
    obtain ⟨s',E',rfl,g'⟩:=h
    exact ⟨_,E',⟨rfl,adW _ (acE.2 ⟨_,hin,hL.symm⟩)⟩,g'⟩
   | exit _=>exact h
   | goto _=>exact h
   | ret=>exact h
   | panic _=>exact h
   | outgrown=>exact h
  simp only [wpList] at h1 ⊢
  split
  ·rename_i hw
   rw [ab8 hw] at h1
   rcases h1 with h1 | ⟨h1,a',w',h2⟩
   ·exact .inl (Oper.Hu (fun a w h=>hq .normal a w h) (fun e a w _ h=>hq e a w h) h1)
   ·exact .inr ⟨h1,a',w',hq _ _ _ h2⟩
  ·rename_i hw
   rw [abQ hw] at h1
   exact hq .normal _ _ h1
 ·rintro st ⟨rfl,_⟩
  rw [hf]; exact done
end
end Go.au
end
