/- A part of the proof. -/
import Derived.Test.YtjbhhddfaohdnaaGreatDoorPS1
import Derived.Test.YtjbhhddfaohdnaaGreatDoorPT10
set_option linter.all false
set_option linter.deprecated false
open Go.Proofs.Tryz renaming prog→abZ,results217→atX
open Go.Value.bool renaming injEq→aeH
open Go.Value.int renaming injEq→aeL
open Int renaming toNat_zero→aex,toNat_one→amN,toNat_natCast→aoD
open List renaming cons_append→ae0,length→aeK,getElem_mapIdx→asL
section
namespace Go.Proofs.Z
open Go Go.au Go.Proofs
set_option maxRecDepth 10000
set_option maxHeartbeats 4000000
theorem afT:aH abZ 271:=fun _ _=>by kernel_rfl
theorem afU:aH abZ 209:=fun _ _=>by kernel_rfl
theorem GN (l:List ByteArray) (p:ByteArray→Bool):aF abZ 271 [.pd (.list 1 (l.map S)),.fn (decides S p l)] [I (jv p l)]:=by
 refine aF.mk Tryz.func271 rfl afT (by simp [Tryz.ntmps271]) fun w G=>?_
 refine R.bound 0 (sz:=1) (ds:=l.map S) rfl fun hl=>?_
 have hl:l.length≤9223372036854775807:=by simpa [maxLen] using hl
 (refine aB 40 _ _ ?_; simp only [go_sem])
 refine R.fam (fun k:Nat=>⟨19,[(0,.pd (.list 1 (l.map S))),(1,.fn (decides S p l)),(7,.pd (I l.length)),(8,.pd (I k))],[],[],[],[]⟩) (fun k=>k≤l.length∧(l.take k).any p=false) (fun k=>l.length - k) 0 ⟨by omega,by simp⟩ (by simp only [go_sem,I]; rfl) ?_
 rintro k ⟨hk,hinv⟩
 (refine aB 60 _ _ ?_; simp only [go_sem,I])
 refine ⟨fun h=>?_,fun h=>?_⟩
 ·have hlt:k<l.length:=by simpa using h
  (refine aB 60 _ _ ?_; simp only [go_sem,I,getD_map,hlt])
  refine ⟨by omega,?_⟩
  refine R.y rfl (ah (by simp only [go_sem])) (.lT 11 _ _ _ _ (B (p l[k])) rfl rfl rfl ⟨l[k],acn hlt,rfl,rfl⟩) ?_
  (refine aB 60 _ _ ?_; simp only [go_sem,B])
  refine ⟨fun h2=>?_,fun h2=>?_⟩
  ·(refine aB 60 _ _ ?_; simp only [go_sem])
   refine R.dO (vc:=True) ?_ trivial
   rw [lZ hlt hinv h2]; rfl
  ·(refine aB 60 _ _ ?_; simp only [go_sem,wrapN (k:=k) (by omega)])
   refine R.ku (k+1) ⟨by omega,?_⟩ (by show _<_; omega) (by simp only [go_sem,I])
   rw [ab3 hlt,ao0,hinv]; simpa using h2
 ·have hge:¬ k<l.length:=by simpa using h
  (refine aB 60 _ _ ?_; simp only [go_sem])
  refine R.dO (vc:=True) ?_ trivial
  rw [acw (by omega)] at hinv
  rw [l7 hinv]; rfl
theorem Dz (l:List ByteArray) (p:ByteArray→Bool):aF abZ 209 [.pd (.list 1 (l.map S)),.fn (decides S p l)] [B (l.any p)]:=by
 refine aF.mk Tryz.func209 rfl afU (by simp [Tryz.ntmps209]) fun w G=>?_
 (refine aB 40 _ _ ?_; simp only [go_sem])
 refine R.jC (GN l p) rfl rfl (.cons (.pd _) (.cons (.fn _) .nil)) (by simp) (by simp only [go_sem]) ?_
 (refine aB 40 _ _ ?_; simp only [go_sem,I])
 refine R.dO (vc:=True) ?_ trivial
 rw [← vF]; rfl
theorem afV:aH abZ 213:=fun _ _=>by kernel_rfl
theorem GR (l:List bU) (p:bU→Bool):aF abZ 213 [.pd (.list 3 (l.map zM)),.fn (decides zM p l)] [I (jv p l)]:=by
 refine aF.mk Tryz.func213 rfl afV (by simp [Tryz.ntmps213]) fun w G=>?_
 refine R.bound 0 (sz:=3) (ds:=l.map zM) rfl fun hl=>?_
 have hl:l.length≤9223372036854775807:=by simpa [maxLen] using hl
 (refine aB 40 _ _ ?_; simp only [go_sem])
 refine R.fam (fun k:Nat=>⟨19,[(0,.pd (.list 3 (l.map zM))),(1,.fn (decides zM p l)),(7,.pd (I l.length)),(8,.pd (I k))],[],[],[],[]⟩) (fun k=>k≤l.length∧(l.take k).any p=false) (fun k=>l.length - k) 0 ⟨by omega,by simp⟩ (by simp only [go_sem,I]; rfl) ?_
 rintro k ⟨hk,hinv⟩
 (refine aB 60 _ _ ?_; simp only [go_sem,I])
 refine ⟨fun h=>?_,fun h=>?_⟩
 ·have hlt:k<l.length:=by simpa using h
  (refine aB 60 _ _ ?_; simp only [go_sem,I,getD_map,hlt])
  refine ⟨by omega,?_⟩
  refine R.y rfl (ah (by simp only [go_sem])) (.lT 11 _ _ _ _ (B (p l[k])) rfl rfl rfl ⟨l[k],acn hlt,rfl,rfl⟩) ?_
  (refine aB 60 _ _ ?_; simp only [go_sem,B])
  refine ⟨fun h2=>?_,fun h2=>?_⟩
  ·(refine aB 60 _ _ ?_; simp only [go_sem])
   refine R.dO (vc:=True) ?_ trivial
   rw [lZ hlt hinv h2]; rfl
  ·(refine aB 60 _ _ ?_; simp only [go_sem,wrapN (k:=k) (by omega)])
   refine R.ku (k+1) ⟨by omega,?_⟩ (by show _<_; omega) (by simp only [go_sem,I])
   rw [ab3 hlt,ao0,hinv]; simpa using h2
 ·have hge:¬ k<l.length:=by simpa using h
  (refine aB 60 _ _ ?_; simp only [go_sem])
  refine R.dO (vc:=True) ?_ trivial
  rw [acw (by omega)] at hinv
  rw [l7 hinv]; rfl
theorem afW:aH abZ 215:=fun _ _=>by kernel_rfl
theorem pR (l:List Attr) (p:Attr→Bool):aF abZ 215 [.pd (.list 6 (l.map attr)),.fn (decides attr p l)] [I (jv p l)]:=by
 refine aF.mk Tryz.func215 rfl afW (by simp [Tryz.ntmps215]) fun w G=>?_
 refine R.bound 0 (sz:=6) (ds:=l.map attr) rfl fun hl=>?_
 have hl:l.length≤9223372036854775807:=by simpa [maxLen] using hl
 (refine aB 40 _ _ ?_; simp only [go_sem])
 refine R.fam (fun k:Nat=>⟨19,[(0,.pd (.list 6 (l.map attr))),(1,.fn (decides attr p l)),(7,.pd (I l.length)),(8,.pd (I k))],[],[],[],[]⟩) (fun k=>k≤l.length∧(l.take k).any p=false) (fun k=>l.length - k) 0 ⟨by omega,by simp⟩ (by simp only [go_sem,I]; rfl) ?_
 rintro k ⟨hk,hinv⟩
 (refine aB 60 _ _ ?_; simp only [go_sem,I])
 refine ⟨fun h=>?_,fun h=>?_⟩
 ·have hlt:k<l.length:=by simpa using h
  (refine aB 60 _ _ ?_; simp only [go_sem,I,getD_map,hlt])
  refine ⟨by omega,?_⟩
  refine R.y rfl (ah (by simp only [go_sem])) (.lT 11 _ _ _ _ (B (p l[k])) rfl rfl rfl ⟨l[k],acn hlt,rfl,rfl⟩) ?_
  (refine aB 60 _ _ ?_; simp only [go_sem,B])
  refine ⟨fun h2=>?_,fun h2=>?_⟩
  ·(refine aB 60 _ _ ?_; simp only [go_sem])
   refine R.dO (vc:=True) ?_ trivial
   rw [lZ hlt hinv h2]; rfl
  ·(refine aB 60 _ _ ?_; simp only [go_sem,wrapN (k:=k) (by omega)])
   refine R.ku (k+1) ⟨by omega,?_⟩ (by show _<_; omega) (by simp only [go_sem,I])
   rw [ab3 hlt,ao0,hinv]; simpa using h2
 ·have hge:¬ k<l.length:=by simpa using h
  (refine aB 60 _ _ ?_; simp only [go_sem])
  refine R.dO (vc:=True) ?_ trivial
  rw [acw (by omega)] at hinv
  rw [l7 hinv]; rfl
theorem XQ:aH abZ 210:=fun _ _=>by kernel_rfl
theorem XR:aH abZ 214:=fun _ _=>by kernel_rfl
theorem XT:aH abZ 248:=fun _ _=>by kernel_rfl
theorem XU:aH abZ 249:=fun _ _=>by kernel_rfl
theorem XV:aH abZ 216:=fun _ _=>by kernel_rfl
theorem XW:aH abZ 218:=fun _ _=>by kernel_rfl
theorem afX:aH abZ 143:=fun _ _=>by kernel_rfl
theorem afY:aH abZ 144:=fun _ _=>by kernel_rfl
theorem afZ:aH abZ 145:=fun _ _=>by kernel_rfl
theorem af0:aH abZ 188:=fun _ _=>by kernel_rfl
theorem af2:aH abZ 250:=fun _ _=>by kernel_rfl
theorem af4:aH abZ 290:=fun _ _=>by kernel_rfl
theorem af5:aH abZ 217:=fun _ _=>by kernel_rfl
theorem af6:aH abZ 252:=fun _ _=>by kernel_rfl
theorem af7:aH abZ 191:=fun _ _=>by kernel_rfl
theorem XY (s:ByteArray) (hs:s.size≤9223372036854775807):aF abZ 210 [.pd (S s)] [B (!nS s)]:=by
 refine aF.mk Tryz.func210 rfl XQ (by simp [Tryz.ntmps210]) fun w G=>?_
 (refine cO [(4,.of (Ub s hs))] 120 _ _ ?_; simp only [go_sem,Go.au.dU,iQ,↓reduceIte,ab1,SV.pd.injEq,PD.raw.injEq,aeH,aeL,Tryz.results210])
def eqS (a b:ByteArray):Bool:=a.toList == b.toList
theorem aaA (t:bU) (n:ByteArray):aF abZ 214 [.pd (zM t),.ref (S n) 0] [B (eqS t.name n)]:=by
 refine aF.mk Tryz.func214 rfl XR (by simp [Tryz.ntmps214]) fun w G=>?_
 (refine cO [] 120 _ _ ?_; simp only [go_sem,Go.au.dU,iQ,↓reduceIte,ab1,SV.pd.injEq,PD.raw.injEq,aeH,aeL,Tryz.results214])
 simp [eqS]
theorem find_ok (l:List bU) (n:ByteArray):aF abZ 143 [.pd (schema l),.pd (S n)] [I (jv (fun t=>eqS t.name n) l)]:=by
 refine aF.mk Tryz.func143 rfl afX (by simp [Tryz.ntmps143]) fun w G=>?_
 refine aNF ?_
 refine R.kC (GR l (fun t=>eqS t.name n)) rfl rfl (.cons (.pd _) (.cons (Co.EN (S n) rfl XR (by rintro es r ⟨x,_,rfl,rfl⟩; exact aaA x n)) (.nil))) ?_
 refine aNF ?_
 refine R.rC ?_
 rfl
theorem Vo (t:Attr) (n:ByteArray):aF abZ 216 [.pd (attr t),.ref (S n) 0] [B (eqS t.name n)]:=by
 refine aF.mk Tryz.func216 rfl XV (by simp [Tryz.ntmps216]) fun w G=>?_
 (refine cO [] 120 _ _ ?_; simp only [go_sem,Go.au.dU,iQ,↓reduceIte,ab1,SV.pd.injEq,PD.raw.injEq,aeH,aeL,Tryz.results216])
 simp [eqS]
def kG (l:List Attr) (n:ByteArray):Int:=jv (fun t=>eqS t.name n) l
theorem E8 (l:List Attr) (n:ByteArray):aF abZ 144 [.pd (attrs l),.pd (S n)] [I (kG l n)]:=by
 refine aF.mk Tryz.func144 rfl afY (by simp [Tryz.ntmps144]) fun w G=>?_
 refine aNF ?_
 refine R.kC (pR l (fun t=>eqS t.name n)) rfl rfl (.cons (.pd _) (.cons (Co.EN (S n) rfl XV (by rintro es r ⟨x,_,rfl,rfl⟩; exact Vo x n)) (.nil))) ?_
 refine aNF ?_
 refine R.rC ?_
 rfl
theorem Sv (t:Attr) (n:ByteArray):aF abZ 248 [.pd (attr t),.ref (S n) 0] [B (eqS t.name n)]:=by
 refine aF.mk Tryz.func248 rfl XT (by simp [Tryz.ntmps248]) fun w G=>?_
 (refine cO [] 120 _ _ ?_; simp only [go_sem,Go.au.dU,iQ,↓reduceIte,ab1,SV.pd.injEq,PD.raw.injEq,aeH,aeL,Tryz.results248])
 simp [eqS]
theorem XZ (l:List ByteArray) (n:ByteArray):aF abZ 290 [.pd (strs l),.pd (S n)] [I (jv (fun t=>eqS n t) l)]:=by
 refine aF.mk Tryz.func290 rfl af4 (by simp [Tryz.ntmps290]) fun w G=>?_
 refine R.bound 0 (sz:=1) (ds:=l.map S) rfl fun hl=>?_
 have hl:l.length≤9223372036854775807:=by simpa [maxLen] using hl
 refine aNF ?_
 refine R.fU (fun (k:Nat) s=>St.lp [0,1,6,7] [(8,.pd (I k))] [] [] [] [] s) (fun (k:Nat)=>k≤l.length∧(l.take k).any (fun t=>eqS n t)=false) (fun (k:Nat)=>l.length - k) (0) (⟨by omega,by simp⟩) ?_
 rintro k ⟨hk,hinv⟩
 refine aNF ?_
 refine ⟨fun h=>?_,fun h=>?_⟩
 ·have hlt:k<l.length:=by simpa using h
  apply ev8; simp only [go_sem,getD_map,hlt]
  refine ⟨by omega,?_⟩
  refine ⟨fun h2=>?_,fun h2=>?_⟩
  ·refine aNF ?_
   refine R.rC ?_
   rw [lZ hlt hinv h2]; rfl
  ·apply ev8; simp only [go_sem,wrapN (k:=k) (by omega)]
   refine R.fE (k+1) ⟨by omega,by rw [ab3 hlt,ao0,hinv]; simpa [eqS] using h2⟩
 ·have hge:¬ k<l.length:=by simpa using h
  rw [acw (by omega)] at hinv
  refine aNF ?_
  refine R.rC ?_
  rw [l7 hinv]; rfl
theorem Qi (l:List ByteArray) (n:ByteArray):aF abZ 250 [.pd (strs l),.pd (S n)] [B (l.any fun t=>eqS n t)]:=by
 refine aF.mk Tryz.func250 rfl af2 (by simp [Tryz.ntmps250]) fun w G=>?_
 refine aNF ?_
 refine R.kC (XZ l n) rfl rfl (.cons (.pd _) (.cons (.pd _) (.nil))) ?_
 refine aNF ?_
 refine R.rC ?_
 rw [← vF]; rfl
theorem Sz (t:Attr) (n:ByteArray):aF abZ 249 [.pd (attr t),.ref (S n) 0] [B (t.was.any fun t=>eqS n t)]:=by
 refine aF.mk Tryz.func249 rfl XU (by simp [Tryz.ntmps249]) fun w G=>?_
 (refine cO [(7,.of (Qi t.was n))] 120 _ _ ?_; simp only [go_sem,Go.au.dU,iQ,↓reduceIte,ab1,SV.pd.injEq,PD.raw.injEq,aeH,aeL,Tryz.results249])
def DC (l:List Attr) (n:ByteArray):Int:=if 0≤kG l n then kG l n else jv (fun t=>t.was.any fun t=>eqS n t) l
theorem Vp (t:bU) (n:ByteArray):aF abZ 188 [.pd (zM t),.pd (S n)] [I (DC t.attrs n)]:=by
 refine aF.mk Tryz.func188 rfl af0 (by simp [Tryz.ntmps188]) fun w G=>?_
 refine aNF ?_
 refine R.kC (pR t.attrs (fun t=>eqS t.name n)) rfl rfl (.cons (.pd _) (.cons (Co.EN (S n) rfl XT (by rintro es r ⟨x,_,rfl,rfl⟩; exact Sv x n)) (.nil))) ?_
 refine aNF ?_
 refine ⟨fun h=>?_,fun h=>?_⟩
 ·have h:0≤kG t.attrs n:=by simpa [kG] using h
  refine aNF ?_
  refine R.rC ?_
  rw [DC,acA h]; rfl
 ·have h:¬ 0≤kG t.attrs n:=by simpa [kG] using h
  refine aNF ?_
  refine R.kC (pR t.attrs (fun t=>t.was.any fun t=>eqS n t)) rfl rfl (.cons (.pd _) (.cons (Co.EN (S n) rfl XU (by rintro es r ⟨x,_,rfl,rfl⟩; exact Sz x n)) (.nil))) ?_
  refine aNF ?_
  refine R.rC ?_
  rw [DC,acg h]; rfl
def uJ (a b:Attr):Bool:=eqS a.name b.name&&a.kind == b.kind
theorem X0 (a b:Attr):aF abZ 218 [.pd (attr a),.pd (attr b)] [B (uJ a b)]:=by
 refine aF.mk Tryz.func218 rfl XW (by simp [Tryz.ntmps218]) fun w G=>?_
 (refine cO [] 120 _ _ ?_; simp only [go_sem,Go.au.dU,iQ,↓reduceIte,ab1,SV.pd.injEq,PD.raw.injEq,aeH,aeL,Tryz.results218])
 simp only [uJ,eqS]
 cases (a.name.toList == b.name.toList) <;> simp
def nC (a b:List Attr):Bool:=decide (a.length=b.length)&&(a.zip b).all fun p=>uJ p.1 p.2
theorem Qj (a b:List Attr):aF abZ 217 [.pd (attrs a),.pd (attrs b),.fn (fun es r=>∃ x y,es=[attr x,attr y]∧r=B (uJ x y))] [B (nC a b)]:=by
 refine aF.mk Tryz.func217 rfl af5 (by simp [Tryz.ntmps217]) fun w G=>?_
 refine R.bound 0 (sz:=6) (ds:=a.map attr) rfl fun hl=>?_
 have hl:a.length≤9223372036854775807:=by simpa [maxLen] using hl
 apply aA; simp only [go_sem,ab1,SV.pd.injEq]
 refine ⟨fun h=>?_,fun h=>?_⟩
 ·have h:a.length≠b.length:=by simp at h; omega
  (refine cO [] 120 _ _ ?_; simp only [go_sem,Go.au.dU,iQ,↓reduceIte,ab1,SV.pd.injEq,PD.raw.injEq,aeH,aeL,atX])
  simp [nC,h]
 have hlen:a.length=b.length:=by simp at h; omega
 apply aA; simp only [go_sem,ab1,SV.pd.injEq]
 refine R.fU (fun (k:Nat) s=>St.lp [0,1,2,10,11,12,13,14,15,16] [(17,.pd (I k))] [] [] [] [] s) (fun (k:Nat)=>k≤a.length∧(a.zip b).all (fun p=>uJ p.1 p.2)=((a.drop k).zip (b.drop k)).all fun p=>uJ p.1 p.2) (fun (k:Nat)=>a.length - k) (0) (⟨by omega,by simp⟩) ?_
 rintro k ⟨hk,hinv⟩
 apply aA; simp only [go_sem,ab1,SV.pd.injEq]
 refine ⟨fun h=>?_,fun h=>?_⟩
 ·have hlt:k<a.length:=by simpa using h
  have ny:k<b.length:=by omega
  rw [drop_cons hlt,drop_cons ny,List.zip_cons_cons,List.all_cons] at hinv
  apply aA; simp only [go_sem,ab1,SV.pd.injEq,getD_map,hlt,ny]
  repeat refine ⟨by omega,?_⟩
  refine R.y rfl (ah (by (simp only [go_sem]))) (.lT 26 _ _ _ _ (B (uJ a[k] b[k])) rfl rfl rfl ⟨a[k],b[k],rfl,rfl⟩) ?_
  apply aA; simp only [go_sem,ab1,SV.pd.injEq]
  refine ⟨fun h2=>?_,fun h2=>?_⟩
  ·(refine cO [] 120 _ _ ?_; simp only [go_sem,Go.au.dU,iQ,↓reduceIte,ab1,SV.pd.injEq,PD.raw.injEq,aeH,aeL,atX])
   have h2:uJ a[k] b[k]=false:=by simpa using h2
   rw [nC,hinv,h2]; simp
  ·apply aA; simp only [go_sem,ab1,SV.pd.injEq,wrapN (k:=k) (by omega)]
   have h2:uJ a[k] b[k]=true:=by simpa using h2
   refine R.fE (k+1) ⟨by omega,by rw [hinv,h2]; simp⟩
 ·have hge:¬ k<a.length:=by simpa using h
  (refine cO [] 120 _ _ ?_; simp only [go_sem,Go.au.dU,iQ,↓reduceIte,ab1,SV.pd.injEq,PD.raw.injEq,aeH,aeL,atX])
  rw [nC,hinv,ag2 (by omega:a.length≤k)]; simp [hlen]
theorem Qk (a b:List Attr):aF abZ 145 [.pd (attrs a),.pd (attrs b)] [B (nC a b)]:=by
 refine aF.mk Tryz.func145 rfl afZ (by simp [Tryz.ntmps145]) fun w G=>?_
 refine aNF ?_
 refine R.kC (Qj a b) rfl rfl (.cons (.pd _) (.cons (.pd _) (.cons (Co.func 218 _ XW (by rintro es r ⟨x,y,rfl,rfl⟩; exact X0 x y)) (.nil)))) ?_
 refine aNF ?_
 refine R.rC ?_
 rfl
def zeroV (v:V):Bool:=v.kind == 0&&(v.n == 0&&v.text == ByteArray.empty)
def Gt (x:Side) (n:Int):Bool:=if x.var = -1 then decide (x.col=0)&&dA x.val else decide (x.var=0)&&decide (0≤x.col)&&decide (x.col<n)&&zeroV x.val
theorem Ue (x:Side) (n:Int):aF abZ 252 [.pd (side x),.pd (I n)] [B (Gt x n)]:=by
 refine aF.mk Tryz.func252 rfl af6 (by simp [Tryz.ntmps252]) fun w G=>?_
 (refine cO [(14,.of (nR x.val))] 120 _ _ ?_; simp only [go_sem,Go.au.dU,iQ,↓reduceIte,ab1,SV.pd.injEq,PD.raw.injEq,aeH,aeL,Tryz.results252])
 repeat' (refine Qe (fun _=>?_) (fun _=>?_))
 all_goals (try simp_all [Gt,zeroV]) <;> (intros; omega)
def uK (t:xq) (n:Int):Bool:=decide (1≤t.op)&&decide (t.op≤4)&&Gt t.left n&&Gt t.right n&&(decide (t.left.var=0) || decide (t.right.var=0))
theorem aaB (t:xq) (n:Int):aF abZ 191 [.pd (tst t),.pd (I n)] [B (uK t n)]:=by
 refine aF.mk Tryz.func191 rfl af7 (by simp [Tryz.ntmps191]) fun w G=>?_
 (refine cO [(17,.of (Ue t.left n)),(23,.of (Ue t.right n))] 120 _ _ ?_; simp only [go_sem,Go.au.dU,iQ,↓reduceIte,ab1,SV.pd.injEq,PD.raw.injEq,aeH,aeL,Tryz.results191])
 repeat' (refine Qe (fun _=>?_) (fun _=>?_))
 all_goals (try simp_all [uK]) <;> first | rfl | (intros; omega)
theorem X3:aH abZ 197:=fun _ _=>by kernel_rfl
def dM {α:Type} (l:List α):List Int→Option (List α)
 | []=>some []
 | c::cs=>if h:0≤c∧c.toNat<l.length then (dM l cs).map (l[c.toNat]'h.2 :: ·) else none
theorem xM {α:Type} (l:List α) (c:Int):∀ (cs:List Int) (out:List α),dM l cs=some out→dM l (cs++[c])=if h:0≤c∧c.toNat<l.length then some (out++[l[c.toNat]'h.2]) else none
 | [],out,h=>by
  simp [dM] at h; subst h
  simp only [List.nil_append,dM,Option.map_some]
 | x::cs,out,h=>by
  simp only [dM] at h
  split at h
  ·rename_i hx
   cases e:dM l cs with
   | none=>simp [e] at h
   | some o=>
    simp [e] at h; subst h
    simp only [ae0,dM,apn hx,xM l c cs o e]
    split <;> simp
  ·simp at h
theorem xO {α:Type} (l:List α) (c:Int) (hc:¬ (0≤c∧c.toNat<l.length)):∀ (cs ds:List Int),dM l (cs++c::ds)=none
 | [],ds=>by simp [dM,hc]
 | x::cs,ds=>by
  simp only [ae0,dM,xO l c hc cs ds]
  split <;> simp
theorem sK {α:Type} (l:List α):∀ (cs:List Int) (out:List α),dM l cs=some out→out.length=cs.length
 | [],out,h=>by simp [dM] at h; simp [← h]
 | x::cs,out,h=>by
  simp only [dM] at h
  split at h
  ·cases e:dM l cs with
   | none=>simp [e] at h
   | some o=>simp [e] at h; subst h; simp [sK l cs o e]
  ·simp at h
abbrev NIL:PD:=.raw (.slice none 0 0)
def JI (r:Option (List Attr)):List PD:=match r with | some l=>[attrs l,B true] | none=>[NIL,B false]
theorem adG (l:List Attr) (cols:List Int) (hc:cols.length≤1000000000) (hb:l.length≤9223372036854775807):aS abZ 197 [.pd (attrs l),.pd (ints cols)] (JI (dM l cols)):=by
 refine aS.mk Tryz.func197 rfl X3 (by simp [Tryz.ntmps197]) fun w G=>?_
 refine aNF ?_
 refine R.jT 6 6 84 6 (by (simp only [go_sem])) rfl rfl ?_
 simp only [go_sem]
 refine aNF ?_
 refine R.fU (fun (k:Nat × List Attr) s=>St.lp [0,1,9,10,31] [(11,.pd (I k.1)),(6,.own 6)] [] [] [] [(6,⟨84,6,k.2.map attr⟩)] s) (fun (k:Nat × List Attr)=>k.1≤cols.length∧dM l (cols.take k.1)=some k.2) (fun (k:Nat × List Attr)=>cols.length - k.1) ((0,[])) (⟨by show 0≤_; omega,by simp [dM]⟩) ?_
 rintro ⟨k,out⟩ ⟨hk,hinv⟩
 have hk:k≤cols.length:=hk
 have hinv:dM l (cols.take k)=some out:=hinv
 have hol:=sK _ _ _ hinv
 rw [akY] at hol
 refine aNF ?_
 refine ⟨fun h=>?_,fun h=>?_⟩
 ·have hlt:k<cols.length:=by simpa using h
  have hsn:=xM l cols[k] _ _ hinv
  rw [← ab3 hlt] at hsn
  apply aA; simp only [go_sem,ab1,SV.pd.injEq,getD_map,hlt]
  repeat refine ⟨by omega,?_⟩
  refine ⟨fun h2=>?_,fun h2=>?_⟩
  ·have hno:¬ (0≤cols[k]∧cols[k].toNat<l.length):=by
    split at h2 <;> simp at * <;> omega
   have hall:dM l cols=none:=by
    have e:=akR k cols
    rw [drop_cons hlt] at e
    rw [← e]; exact xO l _ hno _ _
   refine aNF ?_
   refine R.rW ?_
   rw [hall]; rfl
  ·have hyes:0≤cols[k]∧cols[k].toNat<l.length:=by
    split at h2 <;> simp at * <;> omega
   have hcast:((cols[k].toNat:Nat):Int)=cols[k]:=anJ hyes.1
   rw [apn hyes] at hsn
   generalize cols[k].toNat=q at hcast hyes hsn
   rw [← hcast]
   have hq:=hyes.2
   apply aA; simp only [go_sem,ab1,SV.pd.injEq,getD_map,hq]
   repeat refine ⟨by omega,?_⟩
   refine R.dL 1000000000 80 rfl rfl (by (simp only [go_sem])) rfl rfl rfl rfl sl28 rfl yO (by simp) (congrArg (Option.map aeK) yP) rfl AV (by simp; omega) (by decide) (by decide) ?_
   apply ev8; simp only [go_sem,wrapN (k:=k) (by omega)]
   refine R.fE (k+1,out++[l[q]]) ⟨by show k+1≤_; omega,hsn⟩ (hm:=by show _<_; simp; omega) (l:=by (simp only [go_sem,aeh]); all_goals (and_intros <;> rfl))
 ·have hge:¬ k<cols.length:=by simpa using h
  rw [acw (by omega)] at hinv
  refine aNF ?_
  refine R.bZ 6 rfl rfl ?_
  simp only [go_sem]
  refine R.rW ?_
  rw [hinv]; rfl
def Plan.kind:Plan→Int | .mk k _ _ _ _ _ _ _=>k
def Plan.table:Plan→Int | .mk _ t _ _ _ _ _ _=>t
def Plan.kids:Plan→List Plan | .mk _ _ l _ _ _ _ _=>l
def Plan.tests:Plan→List xq | .mk _ _ _ l _ _ _ _=>l
def Plan.cols:Plan→List Int | .mk _ _ _ _ l _ _ _=>l
def Plan.col:Plan→Int | .mk _ _ _ _ _ c _ _=>c
def Plan.agg:Plan→Int | .mk _ _ _ _ _ _ c _=>c
def Plan.attrs:Plan→List Attr | .mk _ _ _ _ _ _ _ l=>l
theorem aN (p:Plan):plan p = .aj [I p.kind,I p.table,plans p.kids,mJ p.tests,ints p.cols,I p.col,I p.agg,attrs p.attrs]:=by
 cases p; simp only [plan,aau]; rfl
abbrev mX (p:Plan) (l:List bU):PD:=.aj [I p.kind,I p.table,plans p.kids,mJ p.tests,ints p.cols,I p.col,I p.agg,attrs p.attrs,Vj l]
theorem af8:aH abZ 251:=fun _ _=>by kernel_rfl
theorem af9:aH abZ 189:=fun _ _=>by kernel_rfl
theorem GU (l:List xq) (p:xq→Bool):aF abZ 251 [.pd (.list 12 (l.map tst)),.fn (decides tst p l)] [I (jv p l)]:=by
 refine aF.mk Tryz.func251 rfl af8 (by simp [Tryz.ntmps251]) fun w G=>?_
 refine R.bound 0 (sz:=12) (ds:=l.map tst) rfl fun hl=>?_
 have hl:l.length≤9223372036854775807:=by simpa [maxLen] using hl
 (refine aB 40 _ _ ?_; simp only [go_sem])
 refine R.fam (fun k:Nat=>⟨19,[(0,.pd (.list 12 (l.map tst))),(1,.fn (decides tst p l)),(7,.pd (I l.length)),(8,.pd (I k))],[],[],[],[]⟩) (fun k=>k≤l.length∧(l.take k).any p=false) (fun k=>l.length - k) 0 ⟨by omega,by simp⟩ (by simp only [go_sem,I]; rfl) ?_
 rintro k ⟨hk,hinv⟩
 (refine aB 60 _ _ ?_; simp only [go_sem,I])
 refine ⟨fun h=>?_,fun h=>?_⟩
 ·have hlt:k<l.length:=by simpa using h
  (refine aB 60 _ _ ?_; simp only [go_sem,I,getD_map,hlt])
  refine ⟨by omega,?_⟩
  refine R.y rfl (ah (by simp only [go_sem])) (.lT 11 _ _ _ _ (B (p l[k])) rfl rfl rfl ⟨l[k],acn hlt,rfl,rfl⟩) ?_
  (refine aB 60 _ _ ?_; simp only [go_sem,B])
  refine ⟨fun h2=>?_,fun h2=>?_⟩
  ·(refine aB 60 _ _ ?_; simp only [go_sem])
   refine R.dO (vc:=True) ?_ trivial
   rw [lZ hlt hinv h2]; rfl
  ·(refine aB 60 _ _ ?_; simp only [go_sem,wrapN (k:=k) (by omega)])
   refine R.ku (k+1) ⟨by omega,?_⟩ (by show _<_; omega) (by simp only [go_sem,I])
   rw [ab3 hlt,ao0,hinv]; simpa using h2
 ·have hge:¬ k<l.length:=by simpa using h
  (refine aB 60 _ _ ?_; simp only [go_sem])
  refine R.dO (vc:=True) ?_ trivial
  rw [acw (by omega)] at hinv
  rw [l7 hinv]; rfl
theorem nT (l:List xq) (p:xq→Bool):aF abZ 189 [.pd (.list 12 (l.map tst)),.fn (decides tst p l)] [B (l.any p)]:=by
 refine aF.mk Tryz.func189 rfl af9 (by simp [Tryz.ntmps189]) fun w G=>?_
 (refine aB 40 _ _ ?_; simp only [go_sem])
 refine R.jC (GU l p) rfl rfl (.cons (.pd _) (.cons (.fn _) .nil)) (by simp) (by simp only [go_sem]) ?_
 (refine aB 40 _ _ ?_; simp only [go_sem,I])
 refine R.dO (vc:=True) ?_ trivial
 rw [← vF]; rfl
theorem aga:aH abZ 187:=fun _ _=>by kernel_rfl
theorem X4:aH abZ 190:=fun _ _=>by kernel_rfl
theorem agb:aH abZ 122:=fun _ _=>by kernel_rfl
theorem X5:aH abZ 125:=fun _ _=>by kernel_rfl
theorem agc:aH abZ 129:=fun _ _=>by kernel_rfl
theorem agd:aH abZ 132:=fun _ _=>by kernel_rfl
theorem Iz (l:List Attr) (hl:l.length≤1000000000):dZ abZ 187 [.pd (attrs l)] [] [] (fun res M'=>res = .own ⟨84,6,l.map attr⟩∧M'=[]):=by
 refine dZ.mk Tryz.func187 rfl aga (by simp [Tryz.ntmps187]) fun w G=>?_
 refine aNF ?_
 refine fun b hb=>⟨fun h=>?_,fun h=>?_⟩
 ·refine aNF ?_
  refine R.jT 2 2 84 6 (by (simp only [go_sem])) rfl rfl ?_
  simp only [go_sem]
  refine R.qX rfl rfl rfl ⟨?_,rfl⟩
  rw [hb h]
 ·(refine aB 3 _ _ ?_; simp only [go_sem])
  refine R.empty 5 rfl rfl rfl rfl (by (simp only [go_sem])) sl28 (by rw [Ec,yO]; decide) (by rw [Ec,yP]; rfl) ?_
  refine aNF ?_
  refine R.append rfl rfl (ah (by (simp only [go_sem]))) rfl rfl rfl (es:=l.map attr) rfl sl28 rfl yO (by decide) (congrArg (Option.map aeK) yP) rfl (fun i hi=>?_) ?_ ?_ ?_
  ·simp only [aci] at hi
   simp only [getD_map,hi]; rfl
  ·rw [Ec,AV]; simp; omega
  ·simp [maxLen]; omega
  refine aNF ?_
  exact R.qX rfl rfl rfl ⟨rfl,rfl⟩
theorem _root_.Go.au.RY.xI {C:Cx} {all:Array Oper} {tail:List Oper} {o:Oper} {l:List Oper} {k:List KI} {s:St} {f:FuncId} {xs:Array Operand} {ts:Array TypeId} {args:List SV} {rs:List PD} {b:Bool} {j t:Nat} {want c:Bool} (hg:o.guard=some (j,want)) (hj:(all[j]?).bind (·.dst)=some t) (hcc:s.get t = .pd (.raw (.bool c))) (ho:o.op = .call ⟨.value (.func f),xs,ts⟩)
  (h:(c == want)=true→oz (c == want) (o.op.operands.toList.map (aU s))∧iU C.P s.var s.row (xs.toList.map (tZ s)) args b∧aF C.P f args rs) (hl:b=true→plain rs=true) (hd:fO s o) (next:RY C all tail k l (s.put o.dst (.gd (c == want) (fF rs)))):RY C all tail k (o::l) s:=
 ⟨_,.inr (.inl ⟨j,want,t,c,_,hg,hj,.inl hcc,rfl,fun hw=>⟨(h hw).1,.call f xs ts args rs b ho (h hw).2.1 (h hw).2.2 hl⟩⟩),ah hd,next⟩
theorem adH (t:xq) (l:List Attr):aF abZ 190 [.pd (tst t),.ref (attrs l) 0] [B (!uK t l.length)]:=by
 refine aF.mk Tryz.func190 rfl X4 (by simp [Tryz.ntmps190]) fun w G=>?_
 (refine cO [(7,.of (aaB t l.length))] 120 _ _ ?_; simp only [go_sem,Go.au.dU,iQ,↓reduceIte,ab1,SV.pd.injEq,PD.raw.injEq,aeH,aeL,Tryz.results190])
def Fa (p q:Plan):Bool:=!p.tests.isEmpty && !p.tests.any fun t=>!uK t q.attrs.length
theorem Ql (p q:Plan) (tl:List bU) (hk:p.kids=[q]):aF abZ 122 [.pd (mX p tl)] [attrs q.attrs,B (Fa p q)]:=by
 refine aF.mk Tryz.func122 rfl agb (by simp [Tryz.ntmps122]) fun w G=>?_
 simp only [mX,hk,ab9,acH,aN q]
 apply aA; simp only [go_sem,ab1,SV.pd.injEq,aex,amN,aN q]
 repeat refine ⟨by omega,?_⟩
 refine R.dB 16 80 mixed (by decide +kernel) ?_; simp only [go_sem]
 refine RY.xI (rs:=[B (p.tests.any fun t=>!uK t q.attrs.length)]) rfl rfl rfl rfl (fun _=>⟨by simp [oz,Op.operands,Call.operands,aU,St.get,lk,SV.unbox],.cons (.pd _) (.cons (Co.EN (attrs q.attrs) rfl X4 (by rintro es r ⟨x,_,rfl,rfl⟩; exact adH x q.attrs)) .nil),nT p.tests (fun t=>!uK t q.attrs.length)⟩) (by simp [plain,PD.plain]) (by (simp only [go_sem])) ?_
 (refine bg 80 _ _ ?_; simp only [go_sem])
 refine aNF ?_
 refine R.rC ?_
 have e:Fa p q=if decide ((p.tests.length:Int) > 0)=true then !(p.tests.any fun t=>!uK t q.attrs.length) else false:=by
  unfold Fa; cases h:p.tests <;> simp
 rw [e]; rfl
theorem Ol (p q:Plan) (tl:List bU) (hk:p.kids=[q]) (hc:p.cols.length≤1000000000) (hb:q.attrs.length≤1000000000):aS abZ 125 [.pd (mX p tl)] (JI (dM q.attrs p.cols)):=by
 have hp:=adG q.attrs p.cols hc (by omega)
 cases hpv:dM q.attrs p.cols with
 | none=>
  rw [hpv] at hp
  refine aS.mk Tryz.func125 rfl X5 (by simp [Tryz.ntmps125]) fun w G=>?_
  simp only [mX,hk,ab9,acH,aN q]
  apply aA; simp only [go_sem,ab1,SV.pd.injEq,aex,amN,aN q]
  refine R.dB 12 80 mixed (by decide +kernel) ?_; simp only [go_sem,aex,amN,aN q]
  repeat refine ⟨by omega,?_⟩
  refine RY.kW (hp) rfl rfl (.cons (.pd _) (.cons (.pd _) (.nil))) ?_
  (refine bg 80 _ _ ?_; simp only [go_sem,JI])
  refine aNF ?_
  refine R.rW ?_
  rfl
 | some l=>
  rw [hpv] at hp
  refine aS.mk Tryz.func125 rfl X5 (by simp [Tryz.ntmps125]) fun w G=>?_
  simp only [mX,hk,ab9,acH,aN q]
  apply aA; simp only [go_sem,ab1,SV.pd.injEq,aex,amN,aN q]
  refine R.dB 12 80 mixed (by decide +kernel) ?_; simp only [go_sem,aex,amN,aN q]
  repeat refine ⟨by omega,?_⟩
  refine RY.kW (hp) rfl rfl (.cons (.pd _) (.cons (.pd _) (.nil))) ?_
  (refine bg 80 _ _ ?_; simp only [go_sem,JI])
  refine aNF ?_
  refine R.rW ?_
  rfl
theorem both_ok (p q r:Plan) (tl:List bU) (hk:p.kids=[q,r]):aF abZ 129 [.pd (mX p tl)] [attrs q.attrs,B (nC q.attrs r.attrs)]:=by
 refine aF.mk Tryz.func129 rfl agc (by simp [Tryz.ntmps129]) fun w G=>?_
 simp only [mX,hk,ab9,acH,aN q,aN r]
 apply aA; simp only [go_sem,ab1,SV.pd.injEq,aex,amN,aN q,aN r]
 refine R.dB 19 80 mixed (by decide +kernel) ?_; simp only [go_sem,aex,amN,aN q,aN r]
 repeat refine ⟨by omega,?_⟩
 refine RY.kC (Qk q.attrs r.attrs) rfl rfl (.cons (.pd _) (.cons (.pd _) (.nil))) ?_
 (refine bg 80 _ _ ?_; simp only [go_sem])
 refine aNF ?_
 refine R.rC ?_
 rfl
def Attr.named (a:Attr) (n:ByteArray):Attr:=⟨n,a.kind,a.was,a.dflt⟩
theorem Qm (a:Attr) (n:ByteArray):spl (attr a) 0 (S n)=attr (a.named n):=by
 unfold spl; rfl
def JJ (r:Option (List Attr)):List PD:=JI r
def sN (p q:Plan):Option (List Attr):=
 if h:(0≤p.col∧p.col.toNat<q.attrs.length)∧p.attrs.length=q.attrs.length then
  some (q.attrs.set p.col.toNat ((q.attrs[p.col.toNat]'h.1.2).named (p.attrs[p.col.toNat]'(by omega)).name)) else none
theorem SA (p q:Plan) (tl:List bU) (hk:p.kids=[q]) (hb:q.attrs.length≤1000000000):aS abZ 132 [.pd (mX p tl)] (JJ (sN p q)):=by
 refine aS.mk Tryz.func132 rfl agd (by simp [Tryz.ntmps132]) fun w G=>?_
 simp only [mX,hk,ab9,acH,aN q]
 apply aA; simp only [go_sem,ab1,SV.pd.injEq,aex,amN,aN q]
 repeat refine ⟨by omega,?_⟩
 refine R.dW (by rfl) 4 (by rfl) rfl rfl (ah (by (simp only [go_sem]))) (.cons (.pd _) .nil) (Iz q.attrs hb) (fun r m h=>by simp [lk] at h) (fun r h=>by simp at h) ?_
 rintro res M' ⟨rfl,rfl⟩ hh; clear hh
 simp only [Behind]
 apply aA; simp only [go_sem,ab1,SV.pd.injEq]
 refine ⟨fun h=>?_,fun h=>?_⟩
 ·have hno:sN p q=none:=by
   unfold sN; rw [asf]
   intro hh
   split at h <;> simp at * <;> omega
  rw [hno]
  refine aNF ?_
  refine R.rW ?_
  rfl
 ·have hyes:(0≤p.col∧p.col.toNat<q.attrs.length)∧p.attrs.length=q.attrs.length:=by
   split at h <;> simp at * <;> omega
  obtain ⟨n,hn⟩:=aqi hyes.1.1
  have htn:p.col.toNat=n:=by omega
  have hq:n<q.attrs.length:=by omega
  have hq2:n<p.attrs.length:=by omega
  have hv:sN p q=some (q.attrs.set n (q.attrs[n].named p.attrs[n].name)):=by
   unfold sN; rw [apn hyes]; simp only [htn]
  rw [hv]
  clear hv hyes h
  apply aA; simp only [go_sem,ab1,SV.pd.injEq,hn]
  refine R.dB 13 80 mixed (by decide +kernel) ?_; simp only [go_sem,hn,getD_map,hq,hq2]
  repeat refine ⟨by omega,?_⟩
  apply aA; simp only [go_sem,ab1,SV.pd.injEq,hn,aoD,aci]
  repeat refine ⟨by omega,?_⟩
  have e:(q.attrs.map attr).set n (spl ((q.attrs.map attr).getD n (.aj [])) 0 (S p.attrs[n].name))=(q.attrs.set n (q.attrs[n].named p.attrs[n].name)).map attr:=by
   rw [getD_map _ _ _ hq,aqF,Qm]
  apply ev8; simp only [go_sem,e]
  refine R.bZ 4 rfl rfl ?_
  simp only [go_sem]
  refine R.rW ?_
  rfl
theorem agf:aH abZ 119:=fun _ _=>by kernel_rfl
theorem agh:aH abZ 127:=fun _ _=>by kernel_rfl
def Qn (l ps:List Attr) (i:Nat) (a:Attr):Attr:=match ps[i]? with | some b=>if DC l b.name=i then a.named b.name else a | none=>a
def kT (l ps:List Attr) (k:Nat):List Attr:=l.mapIdx fun i a=>if i<k then Qn l ps i a else a
def IB (l ps:List Attr):List Attr:=l.mapIdx (Qn l ps)
theorem IC (l ps:List Attr) (k:Nat):(kT l ps k).length=l.length:=by simp [kT]
theorem X6 (l ps:List Attr):kT l ps 0=l:=by
 apply akV <;> simp [kT]
theorem aaC (l ps:List Attr) (k:Nat) (h:min l.length ps.length≤k):kT l ps k=IB l ps:=by
 apply akV
 ·simp [kT,IB]
 ·intro i h1 h2
  have hi:i<l.length:=by simpa [IB] using h2
  simp only [kT,IB,asL]
  by_cases hk:i<k
  ·simp [hk]
  ·have:ps[i]? = none:=ak3 (by omega)
   simp [hk,Qn,this]
theorem adI (l ps:List Attr) (k:Nat) (h2:k<ps.length) (h:DC l ps[k].name≠k):kT l ps (k+1)=kT l ps k:=by
 apply akV
 ·simp [kT]
 ·intro i h1 _
  simp only [kT,asL]
  by_cases hk:i<k
  ·rw [acA hk,acA (by omega)]
  ·rw [acg hk]
   by_cases he:i=k
   ·subst he
    rw [acA (by omega)]; simp [Qn,aeE h2,h]
   ·rw [acg (by omega)]
theorem aaD (l ps:List Attr) (k:Nat) (h1:k<l.length) (h2:k<ps.length) (h:DC l ps[k].name=k):kT l ps (k+1)=(kT l ps k).set k (l[k].named ps[k].name):=by
 apply akV
 ·simp [kT]
 ·intro i h3 _
  rw [aqV]
  simp only [kT,asL]
  by_cases he:k=i
  ·subst he
   rw [acA (by omega),acA rfl]; simp [Qn,aeE h2,h]
  ·rw [acg he]
   by_cases hk:i<k
   ·rw [acA hk,acA (by omega)]
   ·rw [acg hk,acg (by omega)]
theorem aaE (l ps:List Attr) (k:Nat) (h1:k<l.length):(kT l ps k)[k]'(by rw [IC]; exact h1)=l[k]:=by simp [kT]
theorem aaF (l ps:List Attr) (k:Nat) (h1:k<l.length) (h2:k<ps.length) (h:DC l ps[k].name=k):((kT l ps k).map attr).set k (spl (((kT l ps k).map attr).getD k (.aj [])) 0 (S ps[k].name))=(kT l ps (k+1)).map attr:=by
 rw [getD_map _ _ _ (by rw [IC]; exact h1),aaE l ps k h1,Qm,aaD l ps k h1 h2 h,aqF]
def sO (p:Plan) (tl:List bU):Option (List Attr):=if h:0≤p.table∧p.table.toNat<tl.length then some (IB (tl[p.table.toNat]'h.2).attrs p.attrs) else none
theorem aaG (p:Plan) (tl:List bU) (hb:∀ t∈tl,t.attrs.length≤1000000000):aS abZ 119 [.pd (mX p tl)] (JJ (sO p tl)):=by
 refine aS.mk Tryz.func119 rfl agf (by simp [Tryz.ntmps119]) fun w G=>?_
 simp only [mX]
 apply aA; simp only [go_sem,ab1,SV.pd.injEq]
 refine ⟨fun h=>?_,fun h=>?_⟩
 ·have hno:sO p tl=none:=by
   unfold sO; rw [asf]
   intro hh
   split at h <;> simp at * <;> omega
  rw [hno]
  refine aNF ?_
  refine R.rW ?_
  rfl
 ·have hyes:0≤p.table∧p.table.toNat<tl.length:=by
   split at h <;> simp at * <;> omega
  obtain ⟨n,hn⟩:=aqi hyes.1
  have htn:p.table.toNat=n:=by omega
  have hq:n<tl.length:=by omega
  have hv:sO p tl=some (IB tl[n].attrs p.attrs):=by
   unfold sO; rw [apn hyes]; simp only [htn]
  rw [hv]
  clear hv hyes h
  have hbn:=hb tl[n] (acn hq)
  generalize htt:tl[n]=t at hbn
  apply aA; simp only [go_sem,ab1,SV.pd.injEq,hn,getD_map,hq,htt]
  repeat refine ⟨by omega,?_⟩
  refine R.dW (by rfl) 5 (by rfl) rfl rfl (ah (by (simp only [go_sem]))) (.cons (.pd _) .nil) (Iz t.attrs hbn) (fun r m h=>by simp [lk] at h) (fun r h=>by simp at h) ?_
  rintro res M' ⟨rfl,rfl⟩ hh; clear hh
  simp only [Behind]
  have hm:(if (p.attrs.length:Int)<(t.attrs.length:Int) then (p.attrs.length:Int) else (t.attrs.length:Int))=((min t.attrs.length p.attrs.length:Nat):Int):=by split <;> omega
  have hz:t.attrs.map attr=(kT t.attrs p.attrs 0).map attr:=by rw [X6]
  apply aA; simp only [go_sem,ab1,SV.pd.injEq,hm]
  refine R.fU (fun (k:Nat) s=>St.lp [0,1,2,3,4,5,7,8,9,10,11,12,13,14,15,16,17,18,19,20,21,22,23,24,25,26,27,28,29,30,31,32,33,34,35,36,37,38,65] [(39,.pd (I k)),(5,.own 5)] [1,4] [] [] [(5,⟨84,6,(kT t.attrs p.attrs k).map attr⟩)] s) (fun (k:Nat)=>k≤min t.attrs.length p.attrs.length) (fun (k:Nat)=>min t.attrs.length p.attrs.length - k) (0) (by omega) ?_ (by (simp only [go_sem,hz]); all_goals (and_intros <;> rfl))
  intro k hk
  apply aA; simp only [go_sem,ab1,SV.pd.injEq]
  refine ⟨fun h=>?_,fun h=>?_⟩
  ·have hlt:k<min t.attrs.length p.attrs.length:=by simpa using h
   have h1:k<t.attrs.length:=by omega
   have h2:k<p.attrs.length:=by omega
   apply aA; simp only [go_sem,ab1,SV.pd.injEq]
   refine R.dB 10 80 mixed (by decide +kernel) ?_; simp only [go_sem,getD_map,h2]
   repeat refine ⟨by omega,?_⟩
   refine RY.kC (Vp t p.attrs[k].name) rfl rfl (.cons (.pd _) (.cons (.pd _) (.nil))) ?_
   (refine bg 80 _ _ ?_; simp only [go_sem])
   apply aA; simp only [go_sem,ab1,SV.pd.injEq]
   have hkl:k<(kT t.attrs p.attrs k).length:=by rw [IC]; exact h1
   refine ⟨fun h3=>?_,fun h3=>?_⟩
   ·have h3:DC t.attrs p.attrs[k].name=k:=by simpa using h3
    have hs:=aaF t.attrs p.attrs k h1 h2 h3
    apply aA; simp only [go_sem,ab1,SV.pd.injEq,getD_map,h2,hs,wrapN (k:=k) (by omega)]
    repeat refine ⟨by omega,?_⟩
    refine R.fE (k+1) (by omega) (l:=by (simp only [go_sem,hs]); all_goals (and_intros <;> rfl))
   ·have h3:DC t.attrs p.attrs[k].name≠k:=by simpa using h3
    have hs:=adI t.attrs p.attrs k h2 h3
    apply aA; simp only [go_sem,ab1,SV.pd.injEq,wrapN (k:=k) (by omega)]
    refine R.fE (k+1) (by omega) (l:=by (simp only [go_sem,hs]); all_goals (and_intros <;> rfl))
  ·have hge:¬ k<min t.attrs.length p.attrs.length:=by simpa using h
   rw [aaC t.attrs p.attrs k (by omega)]
   refine aNF ?_
   refine R.bZ 5 rfl rfl ?_
   simp only [go_sem]
   refine R.rW ?_
   rfl
theorem adJ {α:Type} (p:α→Bool) (l:List α):jv p l<l.length:=by
 unfold jv
 cases h:l.findIdx? p with
 | none=>simp; omega
 | some i=>
  rw [anc] at h
  obtain ⟨h1,_⟩:=h
  simp; exact h1
def mY (a:List Attr):List Attr→List Attr→Option (List Attr)
 | out,[]=>some out
 | out,b::bs=>if kG a b.name<0 then mY a (out++[b]) bs else if (out.map (·.kind)).getD (kG a b.name).toNat 0≠b.kind then none else mY a out bs
theorem adK (p q r:Plan) (tl:List bU) (hk:p.kids=[q,r]) (hb:q.attrs.length≤100000000) (hb2:r.attrs.length≤100000000):aS abZ 127 [.pd (mX p tl)] (JJ (mY q.attrs q.attrs r.attrs)):=by
 refine aS.mk Tryz.func127 rfl agh (by simp [Tryz.ntmps127]) fun w G=>?_
 simp only [mX,hk,ab9,acH,aN q,aN r]
 apply aA; simp only [go_sem,ab1,SV.pd.injEq,aex,amN,aN q,aN r]
 repeat refine ⟨by omega,?_⟩
 refine R.dW (by rfl) 4 (by rfl) rfl rfl (ah (by (simp only [go_sem]))) (.cons (.pd _) .nil) (Iz q.attrs (by omega)) (fun r m h=>by simp [lk] at h) (fun r h=>by simp at h) ?_
 rintro res M' ⟨rfl,rfl⟩ hh; clear hh
 simp only [Behind]
 apply aA; simp only [go_sem,ab1,SV.pd.injEq,aex,amN,aN q,aN r]
 repeat refine ⟨by omega,?_⟩
 refine R.fU (fun (k:Nat × List Attr) s=>St.lp [0,1,8,9,10,11,12,13,15,16,17,18,19,20,21,52] [(22,.pd (I k.1)),(4,.own 4)] [1] [] [] [(4,⟨84,6,k.2.map attr⟩)] s) (fun (k:Nat × List Attr)=>k.1≤r.attrs.length∧mY q.attrs q.attrs r.attrs=mY q.attrs k.2 (r.attrs.drop k.1)∧q.attrs.length≤k.2.length∧k.2.length≤q.attrs.length+k.1) (fun (k:Nat × List Attr)=>r.attrs.length - k.1) ((0,q.attrs)) (⟨by show 0≤_; omega,by simp,by simp,by simp⟩) ?_
 rintro ⟨k,out⟩ ⟨hk,hinv,hl1,hl2⟩
 have hk:k≤r.attrs.length:=hk
 have hinv:mY q.attrs q.attrs r.attrs=mY q.attrs out (r.attrs.drop k):=hinv
 have hl1:q.attrs.length≤out.length:=hl1
 have hl2:out.length≤q.attrs.length+k:=hl2
 apply aA; simp only [go_sem,ab1,SV.pd.injEq]
 refine ⟨fun h=>?_,fun h=>?_⟩
 ·have hlt:k<r.attrs.length:=by simpa using h
  have hcl:kG q.attrs r.attrs[k].name<q.attrs.length:=adJ _ _
  rw [drop_cons hlt,mY] at hinv
  apply aA; simp only [go_sem,ab1,SV.pd.injEq,getD_map,hlt]
  repeat refine ⟨by omega,?_⟩
  refine R.dB 8 80 mixed (by decide +kernel) ?_; simp only [go_sem,aex,amN,aN q,aN r]
  repeat refine ⟨by omega,?_⟩
  refine R.kC (E8 q.attrs r.attrs[k].name) rfl rfl (.cons (.pd _) (.cons (.pd _) (.nil))) ?_
  generalize kG q.attrs r.attrs[k].name=c at hcl hinv
  apply aA; simp only [go_sem,ab1,SV.pd.injEq]
  refine ⟨fun h2=>?_,fun h2=>?_⟩
  ·have h2:c<0:=by simpa using h2
   rw [acA h2] at hinv
   apply aA; simp only [go_sem,ab1,SV.pd.injEq]
   refine R.dL (d:=attr r.attrs[k]) 1000000000 80 rfl rfl (by (simp only [go_sem])) rfl rfl rfl rfl sl28 rfl yO (by simp) (congrArg (Option.map aeK) yP) rfl AV (by simp; omega) (by decide) (by decide) ?_
   apply ev8; simp only [go_sem,wrapN (k:=k) (by omega)]
   refine R.fE (k+1,out++[r.attrs[k]]) ⟨by show k+1≤_; omega,hinv,by simp; omega,by simp; omega⟩ (hm:=by show _<_; simp; omega) (l:=by (simp only [go_sem,aeh]); all_goals (and_intros <;> rfl))
  ·have h2:¬ c<0:=by simpa using h2
   rw [acg h2] at hinv
   obtain ⟨n,rfl⟩:=aqi (Int.not_lt.1 h2)
   have hno:n<out.length:=by omega
   have hgo:(out.map (·.kind)).getD n 0=out[n].kind:=by simp [hno]
   rw [aoD,hgo] at hinv
   apply aA; simp only [go_sem,ab1,SV.pd.injEq,getD_map,hno]
   refine R.dB 7 80 mixed (by decide +kernel) ?_; simp only [go_sem,getD_map,hno]
   repeat refine ⟨by omega,?_⟩
   apply aA; simp only [go_sem,ab1,SV.pd.injEq]
   refine ⟨fun h3=>?_,fun h3=>?_⟩
   ·have h3:out[n].kind≠r.attrs[k].kind:=by simpa using h3
    rw [acA h3] at hinv
    rw [hinv]
    refine aNF ?_
    refine R.rW ?_
    rfl
   ·have h3:¬ out[n].kind≠r.attrs[k].kind:=by simpa using h3
    rw [acg h3] at hinv
    apply aA; simp only [go_sem,ab1,SV.pd.injEq,wrapN (k:=k) (by omega)]
    refine R.fE (k+1,out) ⟨by show k+1≤_; omega,hinv,hl1,by show out.length≤_+(k+1); omega⟩ (by show _<_; simp; omega)
 ·have hge:¬ k<r.attrs.length:=by simpa using h
  rw [ag2 (by omega),mY] at hinv
  rw [hinv]
  refine aNF ?_
  refine R.bZ 4 rfl rfl ?_
  simp only [go_sem]
  refine R.rW ?_
  rfl
theorem agi:aH abZ 117:=fun _ _=>by kernel_rfl
theorem Vq (p:Plan):aF abZ 117 [.pd (plan p)] [.aj [I p.kind,I p.table,plans p.kids,mJ p.tests,NIL,I p.col,I p.agg,attrs p.attrs]]:=by
 rw [aN p]
 refine aF.mk Tryz.func117 rfl agi (by simp [Tryz.ntmps117]) fun w G=>?_
 (refine cO [] 120 _ _ ?_; simp only [go_sem,Go.au.dU,iQ,↓reduceIte,ab1,SV.pd.injEq,PD.raw.injEq,aeH,aeL,Tryz.results117])
theorem agj:aH abZ 118:=fun _ _=>by kernel_rfl
theorem DF (p:Plan):aF abZ 118 [.pd (plan p)] [.aj [I p.kind,I p.table,plans p.kids,mJ p.tests,ints p.cols,I p.col,I p.agg,attrs p.attrs]]:=by
 rw [aN p]
 refine aF.mk Tryz.func118 rfl agj (by simp [Tryz.ntmps118]) fun w G=>?_
 (refine cO [] 120 _ _ ?_; simp only [go_sem,Go.au.dU,iQ,↓reduceIte,ab1,SV.pd.injEq,PD.raw.injEq,aeH,aeL,Tryz.results118])
theorem agk:aH abZ 121:=fun _ _=>by kernel_rfl
theorem Vr (p:Plan):aF abZ 121 [.pd (plan p)] [.aj [I p.kind,I 0,plans p.kids,mJ p.tests,ints p.cols,I p.col,I p.agg,attrs p.attrs]]:=by
 rw [aN p]
 refine aF.mk Tryz.func121 rfl agk (by simp [Tryz.ntmps121]) fun w G=>?_
 (refine cO [] 120 _ _ ?_; simp only [go_sem,Go.au.dU,iQ,↓reduceIte,ab1,SV.pd.injEq,PD.raw.injEq,aeH,aeL,Tryz.results121])
theorem agl:aH abZ 124:=fun _ _=>by kernel_rfl
theorem Vs (p:Plan):aF abZ 124 [.pd (plan p)] [.aj [I p.kind,I p.table,plans p.kids,NIL,ints p.cols,I p.col,I p.agg,attrs p.attrs]]:=by
 rw [aN p]
 refine aF.mk Tryz.func124 rfl agl (by simp [Tryz.ntmps124]) fun w G=>?_
 (refine cO [] 120 _ _ ?_; simp only [go_sem,Go.au.dU,iQ,↓reduceIte,ab1,SV.pd.injEq,PD.raw.injEq,aeH,aeL,Tryz.results124])
theorem agm:aH abZ 134:=fun _ _=>by kernel_rfl
theorem Vt (p:Plan):aF abZ 134 [.pd (plan p)] [.aj [I p.kind,I p.table,plans p.kids,mJ p.tests,ints p.cols,I 0,I p.agg,attrs p.attrs]]:=by
 rw [aN p]
 refine aF.mk Tryz.func134 rfl agm (by simp [Tryz.ntmps134]) fun w G=>?_
 (refine cO [] 120 _ _ ?_; simp only [go_sem,Go.au.dU,iQ,↓reduceIte,ab1,SV.pd.injEq,PD.raw.injEq,aeH,aeL,Tryz.results134])
theorem agn:aH abZ 137:=fun _ _=>by kernel_rfl
theorem Vu (p:Plan):aF abZ 137 [.pd (plan p)] [.aj [I p.kind,I p.table,plans p.kids,mJ p.tests,NIL,I 0,I 0,attrs p.attrs]]:=by
 rw [aN p]
 refine aF.mk Tryz.func137 rfl agn (by simp [Tryz.ntmps137]) fun w G=>?_
 (refine cO [] 120 _ _ ?_; simp only [go_sem,Go.au.dU,iQ,↓reduceIte,ab1,SV.pd.injEq,PD.raw.injEq,aeH,aeL,Tryz.results137])
theorem ajl:aH abZ 73:=fun _ _=>by kernel_rfl
abbrev F (n:Nat):PD:=.raw (.func (.func n) #[] #[])
abbrev key (n:Int):Value:=.int .i64 n
def jG:jI:=[(key 1,.aj [I 0,F 119,F 120,F 121]),(key 2,.aj [I 1,F 122,F 123,F 124]),(key 3,.aj [I 1,F 125,F 126,F 117]),(key 4,.aj [I 2,F 127,F 128,F 118]),
 (key 5,.aj [I 2,F 129,F 130,F 118]),(key 6,.aj [I 2,F 129,F 131,F 118]),(key 7,.aj [I 1,F 132,F 133,F 134]),(key 8,.aj [I 1,F 135,F 136,F 137])]
theorem Qo:aS abZ 73 [] [.mp (jG.map (·.1)) (jG.map (·.2))]:=by
 refine aS.mk Tryz.func73 rfl ajl (by simp [Tryz.ntmps73]) fun w G=>?_
 refine aNF ?_
 refine R.makeMap rfl rfl rfl (by (simp only [go_sem])) fun r hr hr0=>?_
 clear hr0
 refine aNF ?_
 refine R.jc (.inr rfl) rfl (ah (by (simp only [go_sem]))) rfl (by (simp only [go_sem]); try rfl) rfl rfl rM rfl (by simp [bH]) (.inl hr) ?_
 apply ev8; simp only [go_sem,fB]
 refine R.jc (.inr rfl) rfl (ah (by (simp only [go_sem]))) rfl (by (simp only [go_sem]); try rfl) rfl rfl rM rfl (by simp [bH]) (.inl hr) ?_
 apply ev8; simp only [go_sem,fB]
 refine R.jc (.inr rfl) rfl (ah (by (simp only [go_sem]))) rfl (by (simp only [go_sem]); try rfl) rfl rfl rM rfl (by simp [bH]) (.inl hr) ?_
 apply ev8; simp only [go_sem,fB]
 refine R.jc (.inr rfl) rfl (ah (by (simp only [go_sem]))) rfl (by (simp only [go_sem]); try rfl) rfl rfl rM rfl (by simp [bH]) (.inl hr) ?_
 apply ev8; simp only [go_sem,fB]
 refine R.jc (.inr rfl) rfl (ah (by (simp only [go_sem]))) rfl (by (simp only [go_sem]); try rfl) rfl rfl rM rfl (by simp [bH]) (.inl hr) ?_
 apply ev8; simp only [go_sem,fB]
 refine R.jc (.inr rfl) rfl (ah (by (simp only [go_sem]))) rfl (by (simp only [go_sem]); try rfl) rfl rfl rM rfl (by simp [bH]) (.inl hr) ?_
 apply ev8; simp only [go_sem,fB]
 refine R.jc (.inr rfl) rfl (ah (by (simp only [go_sem]))) rfl (by (simp only [go_sem]); try rfl) rfl rfl rM rfl (by simp [bH]) (.inl hr) ?_
 apply ev8; simp only [go_sem,fB]
 refine R.jc (.inr rfl) rfl (ah (by (simp only [go_sem]))) rfl (by (simp only [go_sem]); try rfl) rfl rfl rM rfl (by simp [bH]) (.inl hr) ?_
 apply ev8; simp only [go_sem,fB]
 refine R.ED r jG (by simp [St.map,lk,jG]) hr ?_
 simp only [go_sem,SV.thaw,PD.thaw,fB]
 refine R.rW ?_
 rfl
end Go.Proofs.Z
end
section
namespace Go.Proofs.Z
open Go Go.au Go.Proofs
set_option maxRecDepth 10000
set_option maxHeartbeats 4000000
theorem Fb (p:Plan):(plan p).width=8:=by rw [aN]; rfl
theorem Qp (p:Plan):(plan p).iy=true:=by rw [aN]; rfl
theorem agp:aH abZ 147:=fun _ _=>by kernel_rfl
theorem ajm:aH abZ 84:=fun _ _=>by kernel_rfl
theorem Fe (l:List Plan) (p:Plan→Bool):aF abZ 147 [.pd (.list 8 (l.map plan)),.fn (decides plan p l)] [I (jv p l)]:=by
 refine aF.mk Tryz.func147 rfl agp (by simp [Tryz.ntmps147]) fun w G=>?_
 refine R.bound 0 (sz:=8) (ds:=l.map plan) rfl fun hl=>?_
 have hl:l.length≤9223372036854775807:=by simpa [maxLen] using hl
 (refine aB 40 _ _ ?_; simp only [go_sem])
 refine R.fam (fun k:Nat=>⟨19,[(0,.pd (.list 8 (l.map plan))),(1,.fn (decides plan p l)),(7,.pd (I l.length)),(8,.pd (I k))],[],[],[],[]⟩) (fun k=>k≤l.length∧(l.take k).any p=false) (fun k=>l.length - k) 0 ⟨by omega,by simp⟩ (by simp only [go_sem,I]; rfl) ?_
 rintro k ⟨hk,hinv⟩
 (refine aB 60 _ _ ?_; simp only [go_sem,I])
 refine ⟨fun h=>?_,fun h=>?_⟩
 ·have hlt:k<l.length:=by simpa using h
  (refine aB 60 _ _ ?_; simp only [go_sem,I,getD_map,hlt,Fb,Qp])
  refine ⟨by omega,?_⟩
  refine R.y rfl (ah (by simp only [go_sem])) (.lT 11 _ _ _ _ (B (p l[k])) rfl rfl rfl ⟨l[k],acn hlt,rfl,rfl⟩) ?_
  (refine aB 60 _ _ ?_; simp only [go_sem,B])
  refine ⟨fun h2=>?_,fun h2=>?_⟩
  ·(refine aB 60 _ _ ?_; simp only [go_sem])
   refine R.dO (vc:=True) ?_ trivial
   rw [lZ hlt hinv h2]; rfl
  ·(refine aB 60 _ _ ?_; simp only [go_sem,wrapN (k:=k) (by omega)])
   refine R.ku (k+1) ⟨by omega,?_⟩ (by show _<_; omega) (by simp only [go_sem,I])
   rw [ab3 hlt,ao0,hinv]; simpa using h2
 ·have hge:¬ k<l.length:=by simpa using h
  (refine aB 60 _ _ ?_; simp only [go_sem])
  refine R.dO (vc:=True) ?_ trivial
  rw [acw (by omega)] at hinv
  rw [l7 hinv]; rfl
theorem BO (l:List Plan) (p:Plan→Bool):aF abZ 84 [.pd (.list 8 (l.map plan)),.fn (decides plan p l)] [B (l.any p)]:=by
 refine aF.mk Tryz.func84 rfl ajm (by simp [Tryz.ntmps84]) fun w G=>?_
 (refine aB 40 _ _ ?_; simp only [go_sem])
 refine R.jC (Fe l p) rfl rfl (.cons (.pd _) (.cons (.fn _) .nil)) (by simp) (by simp only [go_sem]) ?_
 (refine aB 40 _ _ ?_; simp only [go_sem,I])
 refine R.dO (vc:=True) ?_ trivial
 rw [← vF]; rfl
theorem acE:aH abZ 38:=fun _ _=>by kernel_rfl
mutual
def grp:Plan→Bool
 | .mk k _ kids _ _ _ _ _=>k == 8 || Vw kids
def Vw:List Plan→Bool
 | []=>false
 | p::l=>grp p || Vw l
end
theorem Qq:∀ l:List Plan,Vw l=l.any grp
 | []=>rfl
 | p::l=>by rw [Vw,Qq l]; rfl
theorem X7 (p:Plan):grp p=(p.kind == 8 || p.kids.any grp):=by
 cases p; rw [grp,Qq]; rfl
theorem Ls {p x:Plan} (h:x∈p.kids):SizeOf.sizeOf x<SizeOf.sizeOf p:=by
 cases p
 have:=List.sizeOf_lt_of_mem h
 simp only [Plan.kids] at this
 simp only [Plan.mk.sizeOf_spec]; omega
theorem MZ:∀ (n:Nat) (p:Plan),SizeOf.sizeOf p≤n→aF abZ 38 [.pd (plan p)] [B (grp p)]
 | 0,p,h=>by cases p; simp at h
 | n+1,p,h=>by
  have ih:∀ x∈p.kids,aF abZ 38 [.pd (plan x)] [B (grp x)]:=fun x hx=>MZ n x (by have:=Ls hx; omega)
  rw [aN p]
  refine aF.mk Tryz.func38 rfl acE (by simp [Tryz.ntmps38]) fun w G=>?_
  refine aNF ?_
  refine R.xI (rs:=[B (p.kids.any grp)]) rfl rfl rfl rfl (fun _=>⟨by simp [oz,Op.operands,Call.operands,aU,St.get,lk,SV.unbox],.cons (.pd _) (.cons (Co.func 38 _ acE (by rintro es r ⟨x,hx,rfl,rfl⟩; exact ih x hx)) .nil),BO p.kids grp⟩) (by simp [plain,PD.plain]) (by (simp only [go_sem])) ?_
  refine aNF ?_
  refine R.rC ?_
  have e:grp p=if (p.kind == 8)=true then true else p.kids.any grp:=by
   rw [X7]; cases (p.kind == 8) <;> simp
  rw [e]; rfl
theorem Vx (p:Plan):aF abZ 38 [.pd (plan p)] [B (grp p)]:=MZ _ p (ael _)
end Go.Proofs.Z
end
section
namespace Go.Proofs.Z
open Go Go.au Go.Proofs
set_option maxRecDepth 10000
set_option maxHeartbeats 4000000
theorem agq:aH abZ 157:=fun _ _=>by kernel_rfl
abbrev X8:Value:=.iface 40 (.int .i64 3)
theorem Lu (n m:Int):dZ abZ 157 [.pd (I n),.pd (I m)] [] [] (fun res M'=>M'=[]∧if n≤m then res = .ret [] else res = .wR X8):=by
 refine dZ.mk Tryz.func157 rfl agq (by simp [Tryz.ntmps157]) fun w G=>?_
 refine aNF ?_
 refine ⟨fun h=>?_,fun h=>?_⟩
 ·have h:¬ n≤m:=by simpa using h
  refine aNF ?_
  refine R.wR rfl rfl rfl ⟨rfl,?_⟩
  rw [acg h]
 ·have h:n≤m:=by simpa using h
  refine aNF ?_
  refine R.UY (vc:=True) [] rfl trivial ⟨rfl,?_⟩ (fun r m h=>by simp [lk] at h)
  rw [acA h]
end Go.Proofs.Z
end
section
namespace Go.au
def fG (L:Array Bool):Nat:=(L.toList.zipIdx).foldl (fun m p=>if p.1 then m ||| 2 ^ p.2 else m) 0
def X9 (all:Array Oper) (m i:Nat):Bool:=!m.testBit i&&match all[i]? with | some o=>o.after.toList.all fun e=>!Region.binds .any e || m.testBit e.on | none=>false
def Vy (all:Array Oper) (es:List (Nat × Nat)):Bool:=
 true&&(0::es.map fun p=>p.1 ||| 2 ^ p.2).all fun m=>(List.range all.size).all fun i=>!X9 all m i || es.contains (m,i)
theorem Na (j:Nat):∀ (l:List Bool) (n m:Nat),((l.zipIdx n).foldl (fun m p=>if p.1 then m ||| 2 ^ p.2 else m) m).testBit j=(m.testBit j || (decide (n≤j)&&(l.getD (j - n) false)))
 | [],n,m=>by simp
 | b::l,n,m=>by
  simp only [List.zipIdx_cons,List.foldl_cons]
  rw [Na j l (n+1)]
  by_cases h:j=n
  ·subst h
   cases b with
   | false=>simp; intro h; omega
   | true=>simp
  ·have e:(if b=true then m ||| 2 ^ n else m).testBit j=m.testBit j:=by
    cases b
    ·simp
    ·simp [asO,arf,an2 h]
   rw [e]
   by_cases h2:n≤j
   ·have h3:n+1≤j:=by omega
    have h4:j - n=(j - (n+1))+1:=by omega
    simp only [h2,h3,amM,ao3,h4,apt]
   ·have h3:¬ n+1≤j:=by omega
    simp [h2,h3]
theorem kK (L:Array Bool) (j:Nat):(fG L).testBit j=L.getD j false:=by
 unfold fG
 rw [Na j L.toList 0 0]
 simp [ab5,ab2]
section
variable {C:Cx} {s:St} {all:Array Oper} {k:List KI}
theorem R.acF {id:Nat} (T:Nat→St) (es:List (Nat × Nat)) (full:Nat) (hm:C.P.follows .mixedOrders=true) (hE:(all.toList.zipIdx).all (fun p=>uh p.2 p.1)=true) (hT:Vy all es=true) (hf:fG (Array.replicate all.size true)=full)
  (h0:R C (.code (.region id all true)::k) (T 0)→R C (.code (.region id all true)::k) s)
  (step:∀ p∈es,R C (.ops all ((all.toList.drop p.2).take 1) :: .aO (fun st=>st=T (p.1 ||| 2 ^ p.2))::k) (T p.1)) (done:R C k (T full)):R C (.code (.region id all true)::k) s:=by
 refine h0 ?_
 unfold Vy at hT
 simp only [aeC] at hT
 have hT:=(aeA.1 hT.2)
 refine R.UN hm hE (fun L st=>st=T (fG L)∧fG L∈(0::es.map fun p=>p.1 ||| 2 ^ p.2)) ?_ ?_ ?_
 ·have:fG (Array.replicate all.size false)=0:=by
   apply aqW
   intro j
   rw [kK]; simp [Array.getD]
  exact ⟨by rw [this],by rw [this]; exact aeu ..⟩
 ·rintro L st i o hs ho hun hall ⟨rfl,hmem⟩
  have hi:=(acR.1 ho).1
  have hen:X9 all (fG L) i=true:=by
   unfold X9
   rw [kK,hun,ho]
   simp only [aqG,ao3,aeA]
   intro e he
   rw [kK]
   cases hb:Region.binds .any e with
   | false=>rfl
   | true=>rw [hall e (by simpa using he) hb]; rfl
  have hin:=(aeA.1 (hT _ hmem)) i (by simpa using hi)
  rw [hen] at hin
  have hin:(fG L,i)∈es:=by simpa using hin
  have hst:=step _ hin
  have hL:fG (L.setIfInBounds i true)=fG L ||| 2 ^ i:=by
   apply aqW
   intro j
   rw [kK,asO,kK,arf]
   by_cases c:i=j
   ·subst c; rw [oC (by rw [hs]; exact hi)]; simp
   ·rw [getD_set_ne false c]; simp [c]
  have ho1:(all.toList.drop i).take 1=[o]:=by
   have:all.toList[i]? = some o:=by simpa using ho
   obtain ⟨h1,h2⟩:=ane.1 this
   rw [apd h1,h2]; rfl
  simp only [ho1] at hst
  have:(fun st=>st=T (fG L ||| 2 ^ i))=fun st=>st=T (fG (L.setIfInBounds i true)):=by rw [hL]
  rw [this] at hst
  intro a w E g
  have h1:=hst a w E g
  simp only [fin] at h1 ⊢
  have hq:∀ e a w,fin C (.aO (fun st=>st=T (fG (L.setIfInBounds i true)))::k) e a w→fin C (.aO (fun st=>st=T (fG (L.setIfInBounds i true))∧fG (L.setIfInBounds i true)∈(0::es.map fun p=>p.1 ||| 2 ^ p.2))::k) e a w:=by
   intro e a w h
   cases e with
   | normal=>
    obtain ⟨s',E',rfl,g'⟩:=h
    exact ⟨_,E',⟨rfl,adg _ (acL.2 ⟨_,hin,hL.symm⟩)⟩,g'⟩
   | exit _=>exact h
   | goto _=>exact h
   | ret=>exact h
   | panic _=>exact h
   | outgrown=>exact h
  simp only [wpList] at h1 ⊢
  split
  ·rename_i hw
   rw [acA hw] at h1
   rcases h1 with h1 | ⟨h1,a',w',h2⟩
   ·exact .inl (Oper.Ig (fun a w h=>hq .normal a w h) (fun e a w _ h=>hq e a w h) h1)
   ·exact .inr ⟨h1,a',w',hq _ _ _ h2⟩
  ·rename_i hw
   rw [acg hw] at h1
   exact hq .normal _ _ h1
 ·rintro st ⟨rfl,_⟩
  rw [hf]; exact done
end
end Go.au
end
