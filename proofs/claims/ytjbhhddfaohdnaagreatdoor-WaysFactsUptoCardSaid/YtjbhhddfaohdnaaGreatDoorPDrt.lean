/- A part of the proof. -/
import Derived.Test.YtjbhhddfaohdnaaGreatDoorPS1
import Derived.Test.YtjbhhddfaohdnaaGreatDoorPT10
set_option linter.all false
set_option linter.deprecated false
open Go.Proofs.Tryz renaming prog→aai,results217→awH
open Go.Value.bool renaming injEq→agb
open Go.Value.int renaming injEq→agk
open Int renaming toNat_zero→afY,toNat_one→apc,toNat_natCast→aq0
open List renaming cons_append→agA,length→af0,getElem_mapIdx→avk
section
namespace Go.Proofs.Z
open Go Go.au Go.Proofs
set_option maxRecDepth 10000
set_option maxHeartbeats 4000000
theorem ahw:aH aai 271:=fun _ _=>by kernel_rfl
theorem ahx:aH aai 209:=fun _ _=>by kernel_rfl
theorem Ir (l:List ByteArray) (p:ByteArray→Bool):aC aai 271 [.pd (.list 1 (l.map S)),.fn (decides S p l)] [I (jJ p l)]:=by
 refine aC.mk Tryz.func271 rfl ahw (by simp [Tryz.ntmps271]) fun w G=>?_
 refine R.bound 0 (sz:=1) (ds:=l.map S) rfl fun hl=>?_
 have hl:l.length≤9223372036854775807:=by simpa [maxLen] using hl
 (refine aA 40 _ _ ?_; simp only [go_sem])
 refine R.fam (fun k:Nat=>⟨19,[(0,.pd (.list 1 (l.map S))),(1,.fn (decides S p l)),(7,.pd (I l.length)),(8,.pd (I k))],[],[],[],[]⟩) (fun k=>k≤l.length∧(l.take k).any p=false) (fun k=>l.length - k) 0 ⟨by omega,by simp⟩ (by simp only [go_sem,I]; rfl) ?_
 rintro k ⟨hk,hinv⟩
 (refine aA 60 _ _ ?_; simp only [go_sem,I])
 refine ⟨fun h=>?_,fun h=>?_⟩
 ·have hlt:k<l.length:=by simpa using h
  (refine aA 60 _ _ ?_; simp only [go_sem,I,getD_map,hlt])
  refine ⟨by omega,?_⟩
  refine R.y rfl (ah (by simp only [go_sem])) (.mM 11 _ _ _ _ (B (p l[k])) rfl rfl rfl ⟨l[k],aaO hlt,rfl,rfl⟩) ?_
  (refine aA 60 _ _ ?_; simp only [go_sem,B])
  refine ⟨fun h2=>?_,fun h2=>?_⟩
  ·(refine aA 60 _ _ ?_; simp only [go_sem])
   refine R.dK (vc:=True) ?_ trivial
   rw [mW hlt hinv h2]; rfl
  ·(refine aA 60 _ _ ?_; simp only [go_sem,wrapN (k:=k) (by omega)])
   refine R.jo (k+1) ⟨by omega,?_⟩ (by show _<_; omega) (by simp only [go_sem,I])
   rw [aaG hlt,arq,hinv]; simpa using h2
 ·have hge:¬ k<l.length:=by simpa using h
  (refine aA 60 _ _ ?_; simp only [go_sem])
  refine R.dK (vc:=True) ?_ trivial
  rw [adw (by omega)] at hinv
  rw [mX hinv]; rfl
theorem Et (l:List ByteArray) (p:ByteArray→Bool):aC aai 209 [.pd (.list 1 (l.map S)),.fn (decides S p l)] [B (l.any p)]:=by
 refine aC.mk Tryz.func209 rfl ahx (by simp [Tryz.ntmps209]) fun w G=>?_
 (refine aA 40 _ _ ?_; simp only [go_sem])
 refine R.ji (Ir l p) rfl rfl (.cons (.pd _) (.cons (.fn _) .nil)) (by simp) (by simp only [go_sem]) ?_
 (refine aA 40 _ _ ?_; simp only [go_sem,I])
 refine R.dK (vc:=True) ?_ trivial
 rw [← wG]; rfl
theorem ahy:aH aai 213:=fun _ _=>by kernel_rfl
theorem Iu (l:List bH) (p:bH→Bool):aC aai 213 [.pd (.list 3 (l.map AP)),.fn (decides AP p l)] [I (jJ p l)]:=by
 refine aC.mk Tryz.func213 rfl ahy (by simp [Tryz.ntmps213]) fun w G=>?_
 refine R.bound 0 (sz:=3) (ds:=l.map AP) rfl fun hl=>?_
 have hl:l.length≤9223372036854775807:=by simpa [maxLen] using hl
 (refine aA 40 _ _ ?_; simp only [go_sem])
 refine R.fam (fun k:Nat=>⟨19,[(0,.pd (.list 3 (l.map AP))),(1,.fn (decides AP p l)),(7,.pd (I l.length)),(8,.pd (I k))],[],[],[],[]⟩) (fun k=>k≤l.length∧(l.take k).any p=false) (fun k=>l.length - k) 0 ⟨by omega,by simp⟩ (by simp only [go_sem,I]; rfl) ?_
 rintro k ⟨hk,hinv⟩
 (refine aA 60 _ _ ?_; simp only [go_sem,I])
 refine ⟨fun h=>?_,fun h=>?_⟩
 ·have hlt:k<l.length:=by simpa using h
  (refine aA 60 _ _ ?_; simp only [go_sem,I,getD_map,hlt])
  refine ⟨by omega,?_⟩
  refine R.y rfl (ah (by simp only [go_sem])) (.mM 11 _ _ _ _ (B (p l[k])) rfl rfl rfl ⟨l[k],aaO hlt,rfl,rfl⟩) ?_
  (refine aA 60 _ _ ?_; simp only [go_sem,B])
  refine ⟨fun h2=>?_,fun h2=>?_⟩
  ·(refine aA 60 _ _ ?_; simp only [go_sem])
   refine R.dK (vc:=True) ?_ trivial
   rw [mW hlt hinv h2]; rfl
  ·(refine aA 60 _ _ ?_; simp only [go_sem,wrapN (k:=k) (by omega)])
   refine R.jo (k+1) ⟨by omega,?_⟩ (by show _<_; omega) (by simp only [go_sem,I])
   rw [aaG hlt,arq,hinv]; simpa using h2
 ·have hge:¬ k<l.length:=by simpa using h
  (refine aA 60 _ _ ?_; simp only [go_sem])
  refine R.dK (vc:=True) ?_ trivial
  rw [adw (by omega)] at hinv
  rw [mX hinv]; rfl
theorem ahz:aH aai 215:=fun _ _=>by kernel_rfl
theorem qB (l:List Attr) (p:Attr→Bool):aC aai 215 [.pd (.list 6 (l.map attr)),.fn (decides attr p l)] [I (jJ p l)]:=by
 refine aC.mk Tryz.func215 rfl ahz (by simp [Tryz.ntmps215]) fun w G=>?_
 refine R.bound 0 (sz:=6) (ds:=l.map attr) rfl fun hl=>?_
 have hl:l.length≤9223372036854775807:=by simpa [maxLen] using hl
 (refine aA 40 _ _ ?_; simp only [go_sem])
 refine R.fam (fun k:Nat=>⟨19,[(0,.pd (.list 6 (l.map attr))),(1,.fn (decides attr p l)),(7,.pd (I l.length)),(8,.pd (I k))],[],[],[],[]⟩) (fun k=>k≤l.length∧(l.take k).any p=false) (fun k=>l.length - k) 0 ⟨by omega,by simp⟩ (by simp only [go_sem,I]; rfl) ?_
 rintro k ⟨hk,hinv⟩
 (refine aA 60 _ _ ?_; simp only [go_sem,I])
 refine ⟨fun h=>?_,fun h=>?_⟩
 ·have hlt:k<l.length:=by simpa using h
  (refine aA 60 _ _ ?_; simp only [go_sem,I,getD_map,hlt])
  refine ⟨by omega,?_⟩
  refine R.y rfl (ah (by simp only [go_sem])) (.mM 11 _ _ _ _ (B (p l[k])) rfl rfl rfl ⟨l[k],aaO hlt,rfl,rfl⟩) ?_
  (refine aA 60 _ _ ?_; simp only [go_sem,B])
  refine ⟨fun h2=>?_,fun h2=>?_⟩
  ·(refine aA 60 _ _ ?_; simp only [go_sem])
   refine R.dK (vc:=True) ?_ trivial
   rw [mW hlt hinv h2]; rfl
  ·(refine aA 60 _ _ ?_; simp only [go_sem,wrapN (k:=k) (by omega)])
   refine R.jo (k+1) ⟨by omega,?_⟩ (by show _<_; omega) (by simp only [go_sem,I])
   rw [aaG hlt,arq,hinv]; simpa using h2
 ·have hge:¬ k<l.length:=by simpa using h
  (refine aA 60 _ _ ?_; simp only [go_sem])
  refine R.dK (vc:=True) ?_ trivial
  rw [adw (by omega)] at hinv
  rw [mX hinv]; rfl
theorem Y4:aH aai 210:=fun _ _=>by kernel_rfl
theorem Y5:aH aai 214:=fun _ _=>by kernel_rfl
theorem Y6:aH aai 248:=fun _ _=>by kernel_rfl
theorem Y7:aH aai 249:=fun _ _=>by kernel_rfl
theorem Y8:aH aai 216:=fun _ _=>by kernel_rfl
theorem Y9:aH aai 218:=fun _ _=>by kernel_rfl
theorem ahA:aH aai 143:=fun _ _=>by kernel_rfl
theorem ahB:aH aai 144:=fun _ _=>by kernel_rfl
theorem ahC:aH aai 145:=fun _ _=>by kernel_rfl
theorem ahD:aH aai 188:=fun _ _=>by kernel_rfl
theorem ahE:aH aai 250:=fun _ _=>by kernel_rfl
theorem ahF:aH aai 290:=fun _ _=>by kernel_rfl
theorem ahG:aH aai 217:=fun _ _=>by kernel_rfl
theorem ahH:aH aai 252:=fun _ _=>by kernel_rfl
theorem ahI:aH aai 191:=fun _ _=>by kernel_rfl
theorem Za (s:ByteArray) (hs:s.size≤9223372036854775807):aC aai 210 [.pd (S s)] [B (!oP s)]:=by
 refine aC.mk Tryz.func210 rfl Y4 (by simp [Tryz.ntmps210]) fun w G=>?_
 (refine dB [(4,.of (Vr s hs))] 120 _ _ ?_; simp only [go_sem,Go.au.eu,jd,↓reduceIte,aau,SV.pd.injEq,PD.raw.injEq,agb,agk,Tryz.results210])
def eqS (a b:ByteArray):Bool:=a.toList == b.toList
theorem abQ (t:bH) (n:ByteArray):aC aai 214 [.pd (AP t),.ref (S n) 0] [B (eqS t.name n)]:=by
 refine aC.mk Tryz.func214 rfl Y5 (by simp [Tryz.ntmps214]) fun w G=>?_
 (refine dB [] 120 _ _ ?_; simp only [go_sem,Go.au.eu,jd,↓reduceIte,aau,SV.pd.injEq,PD.raw.injEq,agb,agk,Tryz.results214])
 simp [eqS]
theorem find_ok (l:List bH) (n:ByteArray):aC aai 143 [.pd (schema l),.pd (S n)] [I (jJ (fun t=>eqS t.name n) l)]:=by
 refine aC.mk Tryz.func143 rfl ahA (by simp [Tryz.ntmps143]) fun w G=>?_
 refine aQk ?_
 refine R.kC (Iu l (fun t=>eqS t.name n)) rfl rfl (.cons (.pd _) (.cons (Co.F7 (S n) rfl Y5 (by rintro es r ⟨x,_,rfl,rfl⟩; exact abQ x n)) (.nil))) ?_
 refine aQk ?_
 refine R.rC ?_
 rfl
theorem WX (t:Attr) (n:ByteArray):aC aai 216 [.pd (attr t),.ref (S n) 0] [B (eqS t.name n)]:=by
 refine aC.mk Tryz.func216 rfl Y8 (by simp [Tryz.ntmps216]) fun w G=>?_
 (refine dB [] 120 _ _ ?_; simp only [go_sem,Go.au.eu,jd,↓reduceIte,aau,SV.pd.injEq,PD.raw.injEq,agb,agk,Tryz.results216])
 simp [eqS]
def kX (l:List Attr) (n:ByteArray):Int:=jJ (fun t=>eqS t.name n) l
theorem Gn (l:List Attr) (n:ByteArray):aC aai 144 [.pd (attrs l),.pd (S n)] [I (kX l n)]:=by
 refine aC.mk Tryz.func144 rfl ahB (by simp [Tryz.ntmps144]) fun w G=>?_
 refine aQk ?_
 refine R.kC (qB l (fun t=>eqS t.name n)) rfl rfl (.cons (.pd _) (.cons (Co.F7 (S n) rfl Y8 (by rintro es r ⟨x,_,rfl,rfl⟩; exact WX x n)) (.nil))) ?_
 refine aQk ?_
 refine R.rC ?_
 rfl
theorem UD (t:Attr) (n:ByteArray):aC aai 248 [.pd (attr t),.ref (S n) 0] [B (eqS t.name n)]:=by
 refine aC.mk Tryz.func248 rfl Y6 (by simp [Tryz.ntmps248]) fun w G=>?_
 (refine dB [] 120 _ _ ?_; simp only [go_sem,Go.au.eu,jd,↓reduceIte,aau,SV.pd.injEq,PD.raw.injEq,agb,agk,Tryz.results248])
 simp [eqS]
theorem Zb (l:List ByteArray) (n:ByteArray):aC aai 290 [.pd (strs l),.pd (S n)] [I (jJ (fun t=>eqS n t) l)]:=by
 refine aC.mk Tryz.func290 rfl ahF (by simp [Tryz.ntmps290]) fun w G=>?_
 refine R.bound 0 (sz:=1) (ds:=l.map S) rfl fun hl=>?_
 have hl:l.length≤9223372036854775807:=by simpa [maxLen] using hl
 refine aQk ?_
 refine R.fU (fun (k:Nat) s=>St.lp [0,1,6,7] [(8,.pd (I k))] [] [] [] [] s) (fun (k:Nat)=>k≤l.length∧(l.take k).any (fun t=>eqS n t)=false) (fun (k:Nat)=>l.length - k) (0) (⟨by omega,by simp⟩) ?_
 rintro k ⟨hk,hinv⟩
 refine aQk ?_
 refine ⟨fun h=>?_,fun h=>?_⟩
 ·have hlt:k<l.length:=by simpa using h
  apply ev8; simp only [go_sem,getD_map,hlt]
  refine ⟨by omega,?_⟩
  refine ⟨fun h2=>?_,fun h2=>?_⟩
  ·refine aQk ?_
   refine R.rC ?_
   rw [mW hlt hinv h2]; rfl
  ·apply ev8; simp only [go_sem,wrapN (k:=k) (by omega)]
   refine R.fE (k+1) ⟨by omega,by rw [aaG hlt,arq,hinv]; simpa [eqS] using h2⟩
 ·have hge:¬ k<l.length:=by simpa using h
  rw [adw (by omega)] at hinv
  refine aQk ?_
  refine R.rC ?_
  rw [mX hinv]; rfl
theorem RD (l:List ByteArray) (n:ByteArray):aC aai 250 [.pd (strs l),.pd (S n)] [B (l.any fun t=>eqS n t)]:=by
 refine aC.mk Tryz.func250 rfl ahE (by simp [Tryz.ntmps250]) fun w G=>?_
 refine aQk ?_
 refine R.kC (Zb l n) rfl rfl (.cons (.pd _) (.cons (.pd _) (.nil))) ?_
 refine aQk ?_
 refine R.rC ?_
 rw [← wG]; rfl
theorem UE (t:Attr) (n:ByteArray):aC aai 249 [.pd (attr t),.ref (S n) 0] [B (t.was.any fun t=>eqS n t)]:=by
 refine aC.mk Tryz.func249 rfl Y7 (by simp [Tryz.ntmps249]) fun w G=>?_
 (refine dB [(7,.of (RD t.was n))] 120 _ _ ?_; simp only [go_sem,Go.au.eu,jd,↓reduceIte,aau,SV.pd.injEq,PD.raw.injEq,agb,agk,Tryz.results249])
def Eu (l:List Attr) (n:ByteArray):Int:=if 0≤kX l n then kX l n else jJ (fun t=>t.was.any fun t=>eqS n t) l
theorem WY (t:bH) (n:ByteArray):aC aai 188 [.pd (AP t),.pd (S n)] [I (Eu t.attrs n)]:=by
 refine aC.mk Tryz.func188 rfl ahD (by simp [Tryz.ntmps188]) fun w G=>?_
 refine aQk ?_
 refine R.kC (qB t.attrs (fun t=>eqS t.name n)) rfl rfl (.cons (.pd _) (.cons (Co.F7 (S n) rfl Y6 (by rintro es r ⟨x,_,rfl,rfl⟩; exact UD x n)) (.nil))) ?_
 refine aQk ?_
 refine ⟨fun h=>?_,fun h=>?_⟩
 ·have h:0≤kX t.attrs n:=by simpa [kX] using h
  refine aQk ?_
  refine R.rC ?_
  rw [Eu,adA h]; rfl
 ·have h:¬ 0≤kX t.attrs n:=by simpa [kX] using h
  refine aQk ?_
  refine R.kC (qB t.attrs (fun t=>t.was.any fun t=>eqS n t)) rfl rfl (.cons (.pd _) (.cons (Co.F7 (S n) rfl Y7 (by rintro es r ⟨x,_,rfl,rfl⟩; exact UE x n)) (.nil))) ?_
  refine aQk ?_
  refine R.rC ?_
  rw [Eu,adt h]; rfl
def vK (a b:Attr):Bool:=eqS a.name b.name&&a.kind == b.kind
theorem Zc (a b:Attr):aC aai 218 [.pd (attr a),.pd (attr b)] [B (vK a b)]:=by
 refine aC.mk Tryz.func218 rfl Y9 (by simp [Tryz.ntmps218]) fun w G=>?_
 (refine dB [] 120 _ _ ?_; simp only [go_sem,Go.au.eu,jd,↓reduceIte,aau,SV.pd.injEq,PD.raw.injEq,agb,agk,Tryz.results218])
 simp only [vK,eqS]
 cases (a.name.toList == b.name.toList) <;> simp
def og (a b:List Attr):Bool:=decide (a.length=b.length)&&(a.zip b).all fun p=>vK p.1 p.2
theorem RF (a b:List Attr):aC aai 217 [.pd (attrs a),.pd (attrs b),.fn (fun es r=>∃ x y,es=[attr x,attr y]∧r=B (vK x y))] [B (og a b)]:=by
 refine aC.mk Tryz.func217 rfl ahG (by simp [Tryz.ntmps217]) fun w G=>?_
 refine R.bound 0 (sz:=6) (ds:=a.map attr) rfl fun hl=>?_
 have hl:a.length≤9223372036854775807:=by simpa [maxLen] using hl
 apply aB; simp only [go_sem,aau,SV.pd.injEq]
 refine ⟨fun h=>?_,fun h=>?_⟩
 ·have h:a.length≠b.length:=by simp at h; omega
  (refine dB [] 120 _ _ ?_; simp only [go_sem,Go.au.eu,jd,↓reduceIte,aau,SV.pd.injEq,PD.raw.injEq,agb,agk,awH])
  simp [og,h]
 have hlen:a.length=b.length:=by simp at h; omega
 apply aB; simp only [go_sem,aau,SV.pd.injEq]
 refine R.fU (fun (k:Nat) s=>St.lp [0,1,2,10,11,12,13,14,15,16] [(17,.pd (I k))] [] [] [] [] s) (fun (k:Nat)=>k≤a.length∧(a.zip b).all (fun p=>vK p.1 p.2)=((a.drop k).zip (b.drop k)).all fun p=>vK p.1 p.2) (fun (k:Nat)=>a.length - k) (0) (⟨by omega,by simp⟩) ?_
 rintro k ⟨hk,hinv⟩
 apply aB; simp only [go_sem,aau,SV.pd.injEq]
 refine ⟨fun h=>?_,fun h=>?_⟩
 ·have hlt:k<a.length:=by simpa using h
  have lF:k<b.length:=by omega
  rw [drop_cons hlt,drop_cons lF,List.zip_cons_cons,List.all_cons] at hinv
  apply aB; simp only [go_sem,aau,SV.pd.injEq,getD_map,hlt,lF]
  repeat refine ⟨by omega,?_⟩
  refine R.y rfl (ah (by (simp only [go_sem]))) (.mM 26 _ _ _ _ (B (vK a[k] b[k])) rfl rfl rfl ⟨a[k],b[k],rfl,rfl⟩) ?_
  apply aB; simp only [go_sem,aau,SV.pd.injEq]
  refine ⟨fun h2=>?_,fun h2=>?_⟩
  ·(refine dB [] 120 _ _ ?_; simp only [go_sem,Go.au.eu,jd,↓reduceIte,aau,SV.pd.injEq,PD.raw.injEq,agb,agk,awH])
   have h2:vK a[k] b[k]=false:=by simpa using h2
   rw [og,hinv,h2]; simp
  ·apply aB; simp only [go_sem,aau,SV.pd.injEq,wrapN (k:=k) (by omega)]
   have h2:vK a[k] b[k]=true:=by simpa using h2
   refine R.fE (k+1) ⟨by omega,by rw [hinv,h2]; simp⟩
 ·have hge:¬ k<a.length:=by simpa using h
  (refine dB [] 120 _ _ ?_; simp only [go_sem,Go.au.eu,jd,↓reduceIte,aau,SV.pd.injEq,PD.raw.injEq,agb,agk,awH])
  rw [og,hinv,agm (by omega:a.length≤k)]; simp [hlen]
theorem RG (a b:List Attr):aC aai 145 [.pd (attrs a),.pd (attrs b)] [B (og a b)]:=by
 refine aC.mk Tryz.func145 rfl ahC (by simp [Tryz.ntmps145]) fun w G=>?_
 refine aQk ?_
 refine R.kC (RF a b) rfl rfl (.cons (.pd _) (.cons (.pd _) (.cons (Co.func 218 _ Y9 (by rintro es r ⟨x,y,rfl,rfl⟩; exact Zc x y)) (.nil)))) ?_
 refine aQk ?_
 refine R.rC ?_
 rfl
def zeroV (v:V):Bool:=v.kind == 0&&(v.n == 0&&v.text == ByteArray.empty)
def Ic (x:Side) (n:Int):Bool:=if x.var = -1 then decide (x.col=0)&&dI x.val else decide (x.var=0)&&decide (0≤x.col)&&decide (x.col<n)&&zeroV x.val
theorem Vu (x:Side) (n:Int):aC aai 252 [.pd (side x),.pd (I n)] [B (Ic x n)]:=by
 refine aC.mk Tryz.func252 rfl ahH (by simp [Tryz.ntmps252]) fun w G=>?_
 (refine dB [(14,.of (oO x.val))] 120 _ _ ?_; simp only [go_sem,Go.au.eu,jd,↓reduceIte,aau,SV.pd.injEq,PD.raw.injEq,agb,agk,Tryz.results252])
 repeat' (refine Rx (fun _=>?_) (fun _=>?_))
 all_goals (try simp_all [Ic,zeroV]) <;> (intros; omega)
def vN (t:yA) (n:Int):Bool:=decide (1≤t.op)&&decide (t.op≤4)&&Ic t.left n&&Ic t.right n&&(decide (t.left.var=0) || decide (t.right.var=0))
theorem abR (t:yA) (n:Int):aC aai 191 [.pd (tst t),.pd (I n)] [B (vN t n)]:=by
 refine aC.mk Tryz.func191 rfl ahI (by simp [Tryz.ntmps191]) fun w G=>?_
 (refine dB [(17,.of (Vu t.left n)),(23,.of (Vu t.right n))] 120 _ _ ?_; simp only [go_sem,Go.au.eu,jd,↓reduceIte,aau,SV.pd.injEq,PD.raw.injEq,agb,agk,Tryz.results191])
 repeat' (refine Rx (fun _=>?_) (fun _=>?_))
 all_goals (try simp_all [vN]) <;> first | rfl | (intros; omega)
theorem Zd:aH aai 197:=fun _ _=>by kernel_rfl
def dR {α:Type} (l:List α):List Int→Option (List α)
 | []=>some []
 | c::cs=>if h:0≤c∧c.toNat<l.length then (dR l cs).map (l[c.toNat]'h.2 :: ·) else none
theorem yL {α:Type} (l:List α) (c:Int):∀ (cs:List Int) (out:List α),dR l cs=some out→dR l (cs++[c])=if h:0≤c∧c.toNat<l.length then some (out++[l[c.toNat]'h.2]) else none
 | [],out,h=>by
  simp [dR] at h; subst h
  simp only [List.nil_append,dR,Option.map_some]
 | x::cs,out,h=>by
  simp only [dR] at h
  split at h
  ·rename_i hx
   cases e:dR l cs with
   | none=>simp [e] at h
   | some o=>
    simp [e] at h; subst h
    simp only [agA,dR,arQ hx,yL l c cs o e]
    split <;> simp
  ·simp at h
theorem yM {α:Type} (l:List α) (c:Int) (hc:¬ (0≤c∧c.toNat<l.length)):∀ (cs ds:List Int),dR l (cs++c::ds)=none
 | [],ds=>by simp [dR,hc]
 | x::cs,ds=>by
  simp only [agA,dR,yM l c hc cs ds]
  split <;> simp
theorem ug {α:Type} (l:List α):∀ (cs:List Int) (out:List α),dR l cs=some out→out.length=cs.length
 | [],out,h=>by simp [dR] at h; simp [← h]
 | x::cs,out,h=>by
  simp only [dR] at h
  split at h
  ·cases e:dR l cs with
   | none=>simp [e] at h
   | some o=>simp [e] at h; subst h; simp [ug l cs o e]
  ·simp at h
abbrev NIL:PD:=.raw (.slice none 0 0)
def KQ (r:Option (List Attr)):List PD:=match r with | some l=>[attrs l,B true] | none=>[NIL,B false]
theorem ae1 (l:List Attr) (cols:List Int) (hc:cols.length≤1000000000) (hb:l.length≤9223372036854775807):aT aai 197 [.pd (attrs l),.pd (ints cols)] (KQ (dR l cols)):=by
 refine aT.mk Tryz.func197 rfl Zd (by simp [Tryz.ntmps197]) fun w G=>?_
 refine aQk ?_
 refine R.ku 6 6 84 6 (by (simp only [go_sem])) rfl rfl ?_
 simp only [go_sem]
 refine aQk ?_
 refine R.fU (fun (k:Nat × List Attr) s=>St.lp [0,1,9,10,31] [(11,.pd (I k.1)),(6,.own 6)] [] [] [] [(6,⟨84,6,k.2.map attr⟩)] s) (fun (k:Nat × List Attr)=>k.1≤cols.length∧dR l (cols.take k.1)=some k.2) (fun (k:Nat × List Attr)=>cols.length - k.1) ((0,[])) (⟨by show 0≤_; omega,by simp [dR]⟩) ?_
 rintro ⟨k,out⟩ ⟨hk,hinv⟩
 have hk:k≤cols.length:=hk
 have hinv:dR l (cols.take k)=some out:=hinv
 have hol:=ug _ _ _ hinv
 rw [anc] at hol
 refine aQk ?_
 refine ⟨fun h=>?_,fun h=>?_⟩
 ·have hlt:k<cols.length:=by simpa using h
  have hsn:=yL l cols[k] _ _ hinv
  rw [← aaG hlt] at hsn
  apply aB; simp only [go_sem,aau,SV.pd.injEq,getD_map,hlt]
  repeat refine ⟨by omega,?_⟩
  refine ⟨fun h2=>?_,fun h2=>?_⟩
  ·have hno:¬ (0≤cols[k]∧cols[k].toNat<l.length):=by
    split at h2 <;> simp at * <;> omega
   have hall:dR l cols=none:=by
    have e:=aj8 k cols
    rw [drop_cons hlt] at e
    rw [← e]; exact yM l _ hno _ _
   refine aQk ?_
   refine R.rW ?_
   rw [hall]; rfl
  ·have hyes:0≤cols[k]∧cols[k].toNat<l.length:=by
    split at h2 <;> simp at * <;> omega
   have hcast:((cols[k].toNat:Nat):Int)=cols[k]:=ap6 hyes.1
   rw [arQ hyes] at hsn
   generalize cols[k].toNat=q at hcast hyes hsn
   rw [← hcast]
   have hq:=hyes.2
   apply aB; simp only [go_sem,aau,SV.pd.injEq,getD_map,hq]
   repeat refine ⟨by omega,?_⟩
   refine R.dF 1000000000 80 rfl rfl (by (simp only [go_sem])) rfl rfl rfl rfl sl28 rfl zG (by simp) (congrArg (Option.map af0) zH) rfl BU (by simp; omega) (by decide) (by decide) ?_
   apply ev8; simp only [go_sem,wrapN (k:=k) (by omega)]
   refine R.fE (k+1,out++[l[q]]) ⟨by show k+1≤_; omega,hsn⟩ (hm:=by show _<_; simp; omega) (l:=by (simp only [go_sem,aei]); all_goals (and_intros <;> rfl))
 ·have hge:¬ k<cols.length:=by simpa using h
  rw [adw (by omega)] at hinv
  refine aQk ?_
  refine R.bT 6 rfl rfl ?_
  simp only [go_sem]
  refine R.rW ?_
  rw [hinv]; rfl
def Plan.kind:Plan→Int | .mk k _ _ _ _ _ _ _=>k
def Plan.table:Plan→Int | .mk _ t _ _ _ _ _ _=>t
def Plan.kids:Plan→List Plan | .mk _ _ l _ _ _ _ _=>l
def Plan.tests:Plan→List yA | .mk _ _ _ l _ _ _ _=>l
def Plan.cols:Plan→List Int | .mk _ _ _ _ l _ _ _=>l
def Plan.col:Plan→Int | .mk _ _ _ _ _ c _ _=>c
def Plan.agg:Plan→Int | .mk _ _ _ _ _ _ c _=>c
def Plan.attrs:Plan→List Attr | .mk _ _ _ _ _ _ _ l=>l
theorem aJ (p:Plan):plan p = .ak [I p.kind,I p.table,plans p.kids,nD p.tests,ints p.cols,I p.col,I p.agg,attrs p.attrs]:=by
 cases p; simp only [plan,abL]; rfl
abbrev nR (p:Plan) (l:List bH):PD:=.ak [I p.kind,I p.table,plans p.kids,nD p.tests,ints p.cols,I p.col,I p.agg,attrs p.attrs,WT l]
theorem ahJ:aH aai 251:=fun _ _=>by kernel_rfl
theorem ahK:aH aai 189:=fun _ _=>by kernel_rfl
theorem Iw (l:List yA) (p:yA→Bool):aC aai 251 [.pd (.list 12 (l.map tst)),.fn (decides tst p l)] [I (jJ p l)]:=by
 refine aC.mk Tryz.func251 rfl ahJ (by simp [Tryz.ntmps251]) fun w G=>?_
 refine R.bound 0 (sz:=12) (ds:=l.map tst) rfl fun hl=>?_
 have hl:l.length≤9223372036854775807:=by simpa [maxLen] using hl
 (refine aA 40 _ _ ?_; simp only [go_sem])
 refine R.fam (fun k:Nat=>⟨19,[(0,.pd (.list 12 (l.map tst))),(1,.fn (decides tst p l)),(7,.pd (I l.length)),(8,.pd (I k))],[],[],[],[]⟩) (fun k=>k≤l.length∧(l.take k).any p=false) (fun k=>l.length - k) 0 ⟨by omega,by simp⟩ (by simp only [go_sem,I]; rfl) ?_
 rintro k ⟨hk,hinv⟩
 (refine aA 60 _ _ ?_; simp only [go_sem,I])
 refine ⟨fun h=>?_,fun h=>?_⟩
 ·have hlt:k<l.length:=by simpa using h
  (refine aA 60 _ _ ?_; simp only [go_sem,I,getD_map,hlt])
  refine ⟨by omega,?_⟩
  refine R.y rfl (ah (by simp only [go_sem])) (.mM 11 _ _ _ _ (B (p l[k])) rfl rfl rfl ⟨l[k],aaO hlt,rfl,rfl⟩) ?_
  (refine aA 60 _ _ ?_; simp only [go_sem,B])
  refine ⟨fun h2=>?_,fun h2=>?_⟩
  ·(refine aA 60 _ _ ?_; simp only [go_sem])
   refine R.dK (vc:=True) ?_ trivial
   rw [mW hlt hinv h2]; rfl
  ·(refine aA 60 _ _ ?_; simp only [go_sem,wrapN (k:=k) (by omega)])
   refine R.jo (k+1) ⟨by omega,?_⟩ (by show _<_; omega) (by simp only [go_sem,I])
   rw [aaG hlt,arq,hinv]; simpa using h2
 ·have hge:¬ k<l.length:=by simpa using h
  (refine aA 60 _ _ ?_; simp only [go_sem])
  refine R.dK (vc:=True) ?_ trivial
  rw [adw (by omega)] at hinv
  rw [mX hinv]; rfl
theorem oQ (l:List yA) (p:yA→Bool):aC aai 189 [.pd (.list 12 (l.map tst)),.fn (decides tst p l)] [B (l.any p)]:=by
 refine aC.mk Tryz.func189 rfl ahK (by simp [Tryz.ntmps189]) fun w G=>?_
 (refine aA 40 _ _ ?_; simp only [go_sem])
 refine R.ji (Iw l p) rfl rfl (.cons (.pd _) (.cons (.fn _) .nil)) (by simp) (by simp only [go_sem]) ?_
 (refine aA 40 _ _ ?_; simp only [go_sem,I])
 refine R.dK (vc:=True) ?_ trivial
 rw [← wG]; rfl
theorem ahL:aH aai 187:=fun _ _=>by kernel_rfl
theorem Ze:aH aai 190:=fun _ _=>by kernel_rfl
theorem ahM:aH aai 122:=fun _ _=>by kernel_rfl
theorem Zf:aH aai 125:=fun _ _=>by kernel_rfl
theorem ahN:aH aai 129:=fun _ _=>by kernel_rfl
theorem ahO:aH aai 132:=fun _ _=>by kernel_rfl
theorem Jt (l:List Attr) (hl:l.length≤1000000000):eH aai 187 [.pd (attrs l)] [] [] (fun res M'=>res = .own ⟨84,6,l.map attr⟩∧M'=[]):=by
 refine eH.mk Tryz.func187 rfl ahL (by simp [Tryz.ntmps187]) fun w G=>?_
 refine aQk ?_
 refine fun b hb=>⟨fun h=>?_,fun h=>?_⟩
 ·refine aQk ?_
  refine R.ku 2 2 84 6 (by (simp only [go_sem])) rfl rfl ?_
  simp only [go_sem]
  refine R.rX rfl rfl rfl ⟨?_,rfl⟩
  rw [hb h]
 ·(refine aA 3 _ _ ?_; simp only [go_sem])
  refine R.empty 5 rfl rfl rfl rfl (by (simp only [go_sem])) sl28 (by rw [EU,zG]; decide) (by rw [EU,zH]; rfl) ?_
  refine aQk ?_
  refine R.append rfl rfl (ah (by (simp only [go_sem]))) rfl rfl rfl (es:=l.map attr) rfl sl28 rfl zG (by decide) (congrArg (Option.map af0) zH) rfl (fun i hi=>?_) ?_ ?_ ?_
  ·simp only [adu] at hi
   simp only [getD_map,hi]; rfl
  ·rw [EU,BU]; simp; omega
  ·simp [maxLen]; omega
  refine aQk ?_
  exact R.rX rfl rfl rfl ⟨rfl,rfl⟩
theorem _root_.Go.au.RY.vH {C:Cx} {all:Array Oper} {tail:List Oper} {o:Oper} {l:List Oper} {k:List KI} {s:St} {f:FuncId} {xs:Array Operand} {ts:Array TypeId} {args:List SV} {rs:List PD} {b:Bool} {j t:Nat} {want c:Bool} (hg:o.guard=some (j,want)) (hj:(all[j]?).bind (·.dst)=some t) (hcc:s.get t = .pd (.raw (.bool c))) (ho:o.op = .call ⟨.value (.func f),xs,ts⟩)
  (h:(c == want)=true→nK (c == want) (o.op.operands.toList.map (aU s))∧jf C.P s.var s.row (xs.toList.map (uS s)) args b∧aC C.P f args rs) (hl:b=true→plain rs=true) (hd:fM s o) (next:RY C all tail k l (s.put o.dst (.gd (c == want) (fC rs)))):RY C all tail k (o::l) s:=
 ⟨_,.inr (.inl ⟨j,want,t,c,_,hg,hj,.inl hcc,rfl,fun hw=>⟨(h hw).1,.call f xs ts args rs b ho (h hw).2.1 (h hw).2.2 hl⟩⟩),ah hd,next⟩
theorem ae2 (t:yA) (l:List Attr):aC aai 190 [.pd (tst t),.ref (attrs l) 0] [B (!vN t l.length)]:=by
 refine aC.mk Tryz.func190 rfl Ze (by simp [Tryz.ntmps190]) fun w G=>?_
 (refine dB [(7,.of (abR t l.length))] 120 _ _ ?_; simp only [go_sem,Go.au.eu,jd,↓reduceIte,aau,SV.pd.injEq,PD.raw.injEq,agb,agk,Tryz.results190])
def Gp (p q:Plan):Bool:=!p.tests.isEmpty && !p.tests.any fun t=>!vN t q.attrs.length
theorem RH (p q:Plan) (tl:List bH) (hk:p.kids=[q]):aC aai 122 [.pd (nR p tl)] [attrs q.attrs,B (Gp p q)]:=by
 refine aC.mk Tryz.func122 rfl ahM (by simp [Tryz.ntmps122]) fun w G=>?_
 simp only [nR,hk,ads,adG,aJ q]
 apply aB; simp only [go_sem,aau,SV.pd.injEq,afY,apc,aJ q]
 repeat refine ⟨by omega,?_⟩
 refine R.dA 16 80 mixed (by decide +kernel) ?_; simp only [go_sem]
 refine RY.vH (rs:=[B (p.tests.any fun t=>!vN t q.attrs.length)]) rfl rfl rfl rfl (fun _=>⟨by simp [nK,Op.operands,Call.operands,aU,St.get,lk,SV.unbox],.cons (.pd _) (.cons (Co.F7 (attrs q.attrs) rfl Ze (by rintro es r ⟨x,_,rfl,rfl⟩; exact ae2 x q.attrs)) .nil),oQ p.tests (fun t=>!vN t q.attrs.length)⟩) (by simp [plain,PD.plain]) (by (simp only [go_sem])) ?_
 (refine aZ 80 _ _ ?_; simp only [go_sem])
 refine aQk ?_
 refine R.rC ?_
 have e:Gp p q=if decide ((p.tests.length:Int) > 0)=true then !(p.tests.any fun t=>!vN t q.attrs.length) else false:=by
  unfold Gp; cases h:p.tests <;> simp
 rw [e]; rfl
theorem PS (p q:Plan) (tl:List bH) (hk:p.kids=[q]) (hc:p.cols.length≤1000000000) (hb:q.attrs.length≤1000000000):aT aai 125 [.pd (nR p tl)] (KQ (dR q.attrs p.cols)):=by
 have hp:=ae1 q.attrs p.cols hc (by omega)
 cases hpv:dR q.attrs p.cols with
 | none=>
  rw [hpv] at hp
  refine aT.mk Tryz.func125 rfl Zf (by simp [Tryz.ntmps125]) fun w G=>?_
  simp only [nR,hk,ads,adG,aJ q]
  apply aB; simp only [go_sem,aau,SV.pd.injEq,afY,apc,aJ q]
  refine R.dA 12 80 mixed (by decide +kernel) ?_; simp only [go_sem,afY,apc,aJ q]
  repeat refine ⟨by omega,?_⟩
  refine RY.kW (hp) rfl rfl (.cons (.pd _) (.cons (.pd _) (.nil))) ?_
  (refine aZ 80 _ _ ?_; simp only [go_sem,KQ])
  refine aQk ?_
  refine R.rW ?_
  rfl
 | some l=>
  rw [hpv] at hp
  refine aT.mk Tryz.func125 rfl Zf (by simp [Tryz.ntmps125]) fun w G=>?_
  simp only [nR,hk,ads,adG,aJ q]
  apply aB; simp only [go_sem,aau,SV.pd.injEq,afY,apc,aJ q]
  refine R.dA 12 80 mixed (by decide +kernel) ?_; simp only [go_sem,afY,apc,aJ q]
  repeat refine ⟨by omega,?_⟩
  refine RY.kW (hp) rfl rfl (.cons (.pd _) (.cons (.pd _) (.nil))) ?_
  (refine aZ 80 _ _ ?_; simp only [go_sem,KQ])
  refine aQk ?_
  refine R.rW ?_
  rfl
theorem both_ok (p q r:Plan) (tl:List bH) (hk:p.kids=[q,r]):aC aai 129 [.pd (nR p tl)] [attrs q.attrs,B (og q.attrs r.attrs)]:=by
 refine aC.mk Tryz.func129 rfl ahN (by simp [Tryz.ntmps129]) fun w G=>?_
 simp only [nR,hk,ads,adG,aJ q,aJ r]
 apply aB; simp only [go_sem,aau,SV.pd.injEq,afY,apc,aJ q,aJ r]
 refine R.dA 19 80 mixed (by decide +kernel) ?_; simp only [go_sem,afY,apc,aJ q,aJ r]
 repeat refine ⟨by omega,?_⟩
 refine RY.kC (RG q.attrs r.attrs) rfl rfl (.cons (.pd _) (.cons (.pd _) (.nil))) ?_
 (refine aZ 80 _ _ ?_; simp only [go_sem])
 refine aQk ?_
 refine R.rC ?_
 rfl
def Attr.named (a:Attr) (n:ByteArray):Attr:=⟨n,a.kind,a.was,a.dflt⟩
theorem RI (a:Attr) (n:ByteArray):spl (attr a) 0 (S n)=attr (a.named n):=by
 unfold spl; rfl
def KR (r:Option (List Attr)):List PD:=KQ r
def uh (p q:Plan):Option (List Attr):=
 if h:(0≤p.col∧p.col.toNat<q.attrs.length)∧p.attrs.length=q.attrs.length then
  some (q.attrs.set p.col.toNat ((q.attrs[p.col.toNat]'h.1.2).named (p.attrs[p.col.toNat]'(by omega)).name)) else none
theorem UF (p q:Plan) (tl:List bH) (hk:p.kids=[q]) (hb:q.attrs.length≤1000000000):aT aai 132 [.pd (nR p tl)] (KR (uh p q)):=by
 refine aT.mk Tryz.func132 rfl ahO (by simp [Tryz.ntmps132]) fun w G=>?_
 simp only [nR,hk,ads,adG,aJ q]
 apply aB; simp only [go_sem,aau,SV.pd.injEq,afY,apc,aJ q]
 repeat refine ⟨by omega,?_⟩
 refine R.eG (by rfl) 4 (by rfl) rfl rfl (ah (by (simp only [go_sem]))) (.cons (.pd _) .nil) (Jt q.attrs hb) (fun r m h=>by simp [lk] at h) (fun r h=>by simp at h) ?_
 rintro res M' ⟨rfl,rfl⟩ hh; clear hh
 simp only [Behind]
 apply aB; simp only [go_sem,aau,SV.pd.injEq]
 refine ⟨fun h=>?_,fun h=>?_⟩
 ·have hno:uh p q=none:=by
   unfold uh; rw [auV]
   intro hh
   split at h <;> simp at * <;> omega
  rw [hno]
  refine aQk ?_
  refine R.rW ?_
  rfl
 ·have hyes:(0≤p.col∧p.col.toNat<q.attrs.length)∧p.attrs.length=q.attrs.length:=by
   split at h <;> simp at * <;> omega
  obtain ⟨n,hn⟩:=as2 hyes.1.1
  have htn:p.col.toNat=n:=by omega
  have hq:n<q.attrs.length:=by omega
  have hq2:n<p.attrs.length:=by omega
  have hv:uh p q=some (q.attrs.set n (q.attrs[n].named p.attrs[n].name)):=by
   unfold uh; rw [arQ hyes]; simp only [htn]
  rw [hv]
  clear hv hyes h
  apply aB; simp only [go_sem,aau,SV.pd.injEq,hn]
  refine R.dA 13 80 mixed (by decide +kernel) ?_; simp only [go_sem,hn,getD_map,hq,hq2]
  repeat refine ⟨by omega,?_⟩
  apply aB; simp only [go_sem,aau,SV.pd.injEq,hn,aq0,adu]
  repeat refine ⟨by omega,?_⟩
  have e:(q.attrs.map attr).set n (spl ((q.attrs.map attr).getD n (.ak [])) 0 (S p.attrs[n].name))=(q.attrs.set n (q.attrs[n].named p.attrs[n].name)).map attr:=by
   rw [getD_map _ _ _ hq,atn,RI]
  apply ev8; simp only [go_sem,e]
  refine R.bT 4 rfl rfl ?_
  simp only [go_sem]
  refine R.rW ?_
  rfl
theorem ahP:aH aai 119:=fun _ _=>by kernel_rfl
theorem ahQ:aH aai 127:=fun _ _=>by kernel_rfl
def RJ (l ps:List Attr) (i:Nat) (a:Attr):Attr:=match ps[i]? with | some b=>if Eu l b.name=i then a.named b.name else a | none=>a
def lH (l ps:List Attr) (k:Nat):List Attr:=l.mapIdx fun i a=>if i<k then RJ l ps i a else a
def Ju (l ps:List Attr):List Attr:=l.mapIdx (RJ l ps)
theorem Jv (l ps:List Attr) (k:Nat):(lH l ps k).length=l.length:=by simp [lH]
theorem Zg (l ps:List Attr):lH l ps 0=l:=by
 apply am8 <;> simp [lH]
theorem abS (l ps:List Attr) (k:Nat) (h:min l.length ps.length≤k):lH l ps k=Ju l ps:=by
 apply am8
 ·simp [lH,Ju]
 ·intro i h1 h2
  have hi:i<l.length:=by simpa [Ju] using h2
  simp only [lH,Ju,avk]
  by_cases hk:i<k
  ·simp [hk]
  ·have:ps[i]? = none:=ao6 (by omega)
   simp [hk,RJ,this]
theorem ae3 (l ps:List Attr) (k:Nat) (h2:k<ps.length) (h:Eu l ps[k].name≠k):lH l ps (k+1)=lH l ps k:=by
 apply am8
 ·simp [lH]
 ·intro i h1 _
  simp only [lH,avk]
  by_cases hk:i<k
  ·rw [adA hk,adA (by omega)]
  ·rw [adt hk]
   by_cases he:i=k
   ·subst he
    rw [adA (by omega)]; simp [RJ,af4 h2,h]
   ·rw [adt (by omega)]
theorem abT (l ps:List Attr) (k:Nat) (h1:k<l.length) (h2:k<ps.length) (h:Eu l ps[k].name=k):lH l ps (k+1)=(lH l ps k).set k (l[k].named ps[k].name):=by
 apply am8
 ·simp [lH]
 ·intro i h3 _
  rw [atC]
  simp only [lH,avk]
  by_cases he:k=i
  ·subst he
   rw [adA (by omega),adA rfl]; simp [RJ,af4 h2,h]
  ·rw [adt he]
   by_cases hk:i<k
   ·rw [adA hk,adA (by omega)]
   ·rw [adt hk,adt (by omega)]
theorem abU (l ps:List Attr) (k:Nat) (h1:k<l.length):(lH l ps k)[k]'(by rw [Jv]; exact h1)=l[k]:=by simp [lH]
theorem abV (l ps:List Attr) (k:Nat) (h1:k<l.length) (h2:k<ps.length) (h:Eu l ps[k].name=k):((lH l ps k).map attr).set k (spl (((lH l ps k).map attr).getD k (.ak [])) 0 (S ps[k].name))=(lH l ps (k+1)).map attr:=by
 rw [getD_map _ _ _ (by rw [Jv]; exact h1),abU l ps k h1,RI,abT l ps k h1 h2 h,atn]
def uj (p:Plan) (tl:List bH):Option (List Attr):=if h:0≤p.table∧p.table.toNat<tl.length then some (Ju (tl[p.table.toNat]'h.2).attrs p.attrs) else none
theorem abW (p:Plan) (tl:List bH) (hb:∀ t∈tl,t.attrs.length≤1000000000):aT aai 119 [.pd (nR p tl)] (KR (uj p tl)):=by
 refine aT.mk Tryz.func119 rfl ahP (by simp [Tryz.ntmps119]) fun w G=>?_
 simp only [nR]
 apply aB; simp only [go_sem,aau,SV.pd.injEq]
 refine ⟨fun h=>?_,fun h=>?_⟩
 ·have hno:uj p tl=none:=by
   unfold uj; rw [auV]
   intro hh
   split at h <;> simp at * <;> omega
  rw [hno]
  refine aQk ?_
  refine R.rW ?_
  rfl
 ·have hyes:0≤p.table∧p.table.toNat<tl.length:=by
   split at h <;> simp at * <;> omega
  obtain ⟨n,hn⟩:=as2 hyes.1
  have htn:p.table.toNat=n:=by omega
  have hq:n<tl.length:=by omega
  have hv:uj p tl=some (Ju tl[n].attrs p.attrs):=by
   unfold uj; rw [arQ hyes]; simp only [htn]
  rw [hv]
  clear hv hyes h
  have hbn:=hb tl[n] (aaO hq)
  generalize htt:tl[n]=t at hbn
  apply aB; simp only [go_sem,aau,SV.pd.injEq,hn,getD_map,hq,htt]
  repeat refine ⟨by omega,?_⟩
  refine R.eG (by rfl) 5 (by rfl) rfl rfl (ah (by (simp only [go_sem]))) (.cons (.pd _) .nil) (Jt t.attrs hbn) (fun r m h=>by simp [lk] at h) (fun r h=>by simp at h) ?_
  rintro res M' ⟨rfl,rfl⟩ hh; clear hh
  simp only [Behind]
  have hm:(if (p.attrs.length:Int)<(t.attrs.length:Int) then (p.attrs.length:Int) else (t.attrs.length:Int))=((min t.attrs.length p.attrs.length:Nat):Int):=by split <;> omega
  have hz:t.attrs.map attr=(lH t.attrs p.attrs 0).map attr:=by rw [Zg]
  apply aB; simp only [go_sem,aau,SV.pd.injEq,hm]
  refine R.fU (fun (k:Nat) s=>St.lp [0,1,2,3,4,5,7,8,9,10,11,12,13,14,15,16,17,18,19,20,21,22,23,24,25,26,27,28,29,30,31,32,33,34,35,36,37,38,65] [(39,.pd (I k)),(5,.own 5)] [1,4] [] [] [(5,⟨84,6,(lH t.attrs p.attrs k).map attr⟩)] s) (fun (k:Nat)=>k≤min t.attrs.length p.attrs.length) (fun (k:Nat)=>min t.attrs.length p.attrs.length - k) (0) (by omega) ?_ (by (simp only [go_sem,hz]); all_goals (and_intros <;> rfl))
  intro k hk
  apply aB; simp only [go_sem,aau,SV.pd.injEq]
  refine ⟨fun h=>?_,fun h=>?_⟩
  ·have hlt:k<min t.attrs.length p.attrs.length:=by simpa using h
   have h1:k<t.attrs.length:=by omega
   have h2:k<p.attrs.length:=by omega
   apply aB; simp only [go_sem,aau,SV.pd.injEq]
   refine R.dA 10 80 mixed (by decide +kernel) ?_; simp only [go_sem,getD_map,h2]
   repeat refine ⟨by omega,?_⟩
   refine RY.kC (WY t p.attrs[k].name) rfl rfl (.cons (.pd _) (.cons (.pd _) (.nil))) ?_
   (refine aZ 80 _ _ ?_; simp only [go_sem])
   apply aB; simp only [go_sem,aau,SV.pd.injEq]
   have hkl:k<(lH t.attrs p.attrs k).length:=by rw [Jv]; exact h1
   refine ⟨fun h3=>?_,fun h3=>?_⟩
   ·have h3:Eu t.attrs p.attrs[k].name=k:=by simpa using h3
    have hs:=abV t.attrs p.attrs k h1 h2 h3
    apply aB; simp only [go_sem,aau,SV.pd.injEq,getD_map,h2,hs,wrapN (k:=k) (by omega)]
    repeat refine ⟨by omega,?_⟩
    refine R.fE (k+1) (by omega) (l:=by (simp only [go_sem,hs]); all_goals (and_intros <;> rfl))
   ·have h3:Eu t.attrs p.attrs[k].name≠k:=by simpa using h3
    have hs:=ae3 t.attrs p.attrs k h2 h3
    apply aB; simp only [go_sem,aau,SV.pd.injEq,wrapN (k:=k) (by omega)]
    refine R.fE (k+1) (by omega) (l:=by (simp only [go_sem,hs]); all_goals (and_intros <;> rfl))
  ·have hge:¬ k<min t.attrs.length p.attrs.length:=by simpa using h
   rw [abS t.attrs p.attrs k (by omega)]
   refine aQk ?_
   refine R.bT 5 rfl rfl ?_
   simp only [go_sem]
   refine R.rW ?_
   rfl
theorem ae4 {α:Type} (p:α→Bool) (l:List α):jJ p l<l.length:=by
 unfold jJ
 cases h:l.findIdx? p with
 | none=>simp; omega
 | some i=>
  rw [apB] at h
  obtain ⟨h1,_⟩:=h
  simp; exact h1
def nS (a:List Attr):List Attr→List Attr→Option (List Attr)
 | out,[]=>some out
 | out,b::bs=>if kX a b.name<0 then nS a (out++[b]) bs else if (out.map (·.kind)).getD (kX a b.name).toNat 0≠b.kind then none else nS a out bs
theorem ae5 (p q r:Plan) (tl:List bH) (hk:p.kids=[q,r]) (hb:q.attrs.length≤100000000) (hb2:r.attrs.length≤100000000):aT aai 127 [.pd (nR p tl)] (KR (nS q.attrs q.attrs r.attrs)):=by
 refine aT.mk Tryz.func127 rfl ahQ (by simp [Tryz.ntmps127]) fun w G=>?_
 simp only [nR,hk,ads,adG,aJ q,aJ r]
 apply aB; simp only [go_sem,aau,SV.pd.injEq,afY,apc,aJ q,aJ r]
 repeat refine ⟨by omega,?_⟩
 refine R.eG (by rfl) 4 (by rfl) rfl rfl (ah (by (simp only [go_sem]))) (.cons (.pd _) .nil) (Jt q.attrs (by omega)) (fun r m h=>by simp [lk] at h) (fun r h=>by simp at h) ?_
 rintro res M' ⟨rfl,rfl⟩ hh; clear hh
 simp only [Behind]
 apply aB; simp only [go_sem,aau,SV.pd.injEq,afY,apc,aJ q,aJ r]
 repeat refine ⟨by omega,?_⟩
 refine R.fU (fun (k:Nat × List Attr) s=>St.lp [0,1,8,9,10,11,12,13,15,16,17,18,19,20,21,52] [(22,.pd (I k.1)),(4,.own 4)] [1] [] [] [(4,⟨84,6,k.2.map attr⟩)] s) (fun (k:Nat × List Attr)=>k.1≤r.attrs.length∧nS q.attrs q.attrs r.attrs=nS q.attrs k.2 (r.attrs.drop k.1)∧q.attrs.length≤k.2.length∧k.2.length≤q.attrs.length+k.1) (fun (k:Nat × List Attr)=>r.attrs.length - k.1) ((0,q.attrs)) (⟨by show 0≤_; omega,by simp,by simp,by simp⟩) ?_
 rintro ⟨k,out⟩ ⟨hk,hinv,hl1,hl2⟩
 have hk:k≤r.attrs.length:=hk
 have hinv:nS q.attrs q.attrs r.attrs=nS q.attrs out (r.attrs.drop k):=hinv
 have hl1:q.attrs.length≤out.length:=hl1
 have hl2:out.length≤q.attrs.length+k:=hl2
 apply aB; simp only [go_sem,aau,SV.pd.injEq]
 refine ⟨fun h=>?_,fun h=>?_⟩
 ·have hlt:k<r.attrs.length:=by simpa using h
  have hcl:kX q.attrs r.attrs[k].name<q.attrs.length:=ae4 _ _
  rw [drop_cons hlt,nS] at hinv
  apply aB; simp only [go_sem,aau,SV.pd.injEq,getD_map,hlt]
  repeat refine ⟨by omega,?_⟩
  refine R.dA 8 80 mixed (by decide +kernel) ?_; simp only [go_sem,afY,apc,aJ q,aJ r]
  repeat refine ⟨by omega,?_⟩
  refine R.kC (Gn q.attrs r.attrs[k].name) rfl rfl (.cons (.pd _) (.cons (.pd _) (.nil))) ?_
  generalize kX q.attrs r.attrs[k].name=c at hcl hinv
  apply aB; simp only [go_sem,aau,SV.pd.injEq]
  refine ⟨fun h2=>?_,fun h2=>?_⟩
  ·have h2:c<0:=by simpa using h2
   rw [adA h2] at hinv
   apply aB; simp only [go_sem,aau,SV.pd.injEq]
   refine R.dF (d:=attr r.attrs[k]) 1000000000 80 rfl rfl (by (simp only [go_sem])) rfl rfl rfl rfl sl28 rfl zG (by simp) (congrArg (Option.map af0) zH) rfl BU (by simp; omega) (by decide) (by decide) ?_
   apply ev8; simp only [go_sem,wrapN (k:=k) (by omega)]
   refine R.fE (k+1,out++[r.attrs[k]]) ⟨by show k+1≤_; omega,hinv,by simp; omega,by simp; omega⟩ (hm:=by show _<_; simp; omega) (l:=by (simp only [go_sem,aei]); all_goals (and_intros <;> rfl))
  ·have h2:¬ c<0:=by simpa using h2
   rw [adt h2] at hinv
   obtain ⟨n,rfl⟩:=as2 (Int.not_lt.1 h2)
   have hno:n<out.length:=by omega
   have hgo:(out.map (·.kind)).getD n 0=out[n].kind:=by simp [hno]
   rw [aq0,hgo] at hinv
   apply aB; simp only [go_sem,aau,SV.pd.injEq,getD_map,hno]
   refine R.dA 7 80 mixed (by decide +kernel) ?_; simp only [go_sem,getD_map,hno]
   repeat refine ⟨by omega,?_⟩
   apply aB; simp only [go_sem,aau,SV.pd.injEq]
   refine ⟨fun h3=>?_,fun h3=>?_⟩
   ·have h3:out[n].kind≠r.attrs[k].kind:=by simpa using h3
    rw [adA h3] at hinv
    rw [hinv]
    refine aQk ?_
    refine R.rW ?_
    rfl
   ·have h3:¬ out[n].kind≠r.attrs[k].kind:=by simpa using h3
    rw [adt h3] at hinv
    apply aB; simp only [go_sem,aau,SV.pd.injEq,wrapN (k:=k) (by omega)]
    refine R.fE (k+1,out) ⟨by show k+1≤_; omega,hinv,hl1,by show out.length≤_+(k+1); omega⟩ (by show _<_; simp; omega)
 ·have hge:¬ k<r.attrs.length:=by simpa using h
  rw [agm (by omega),nS] at hinv
  rw [hinv]
  refine aQk ?_
  refine R.bT 4 rfl rfl ?_
  simp only [go_sem]
  refine R.rW ?_
  rfl
theorem ahR:aH aai 117:=fun _ _=>by kernel_rfl
theorem WZ (p:Plan):aC aai 117 [.pd (plan p)] [.ak [I p.kind,I p.table,plans p.kids,nD p.tests,NIL,I p.col,I p.agg,attrs p.attrs]]:=by
 rw [aJ p]
 refine aC.mk Tryz.func117 rfl ahR (by simp [Tryz.ntmps117]) fun w G=>?_
 (refine dB [] 120 _ _ ?_; simp only [go_sem,Go.au.eu,jd,↓reduceIte,aau,SV.pd.injEq,PD.raw.injEq,agb,agk,Tryz.results117])
theorem ahS:aH aai 118:=fun _ _=>by kernel_rfl
theorem Ew (p:Plan):aC aai 118 [.pd (plan p)] [.ak [I p.kind,I p.table,plans p.kids,nD p.tests,ints p.cols,I p.col,I p.agg,attrs p.attrs]]:=by
 rw [aJ p]
 refine aC.mk Tryz.func118 rfl ahS (by simp [Tryz.ntmps118]) fun w G=>?_
 (refine dB [] 120 _ _ ?_; simp only [go_sem,Go.au.eu,jd,↓reduceIte,aau,SV.pd.injEq,PD.raw.injEq,agb,agk,Tryz.results118])
theorem ahT:aH aai 121:=fun _ _=>by kernel_rfl
theorem W9 (p:Plan):aC aai 121 [.pd (plan p)] [.ak [I p.kind,I 0,plans p.kids,nD p.tests,ints p.cols,I p.col,I p.agg,attrs p.attrs]]:=by
 rw [aJ p]
 refine aC.mk Tryz.func121 rfl ahT (by simp [Tryz.ntmps121]) fun w G=>?_
 (refine dB [] 120 _ _ ?_; simp only [go_sem,Go.au.eu,jd,↓reduceIte,aau,SV.pd.injEq,PD.raw.injEq,agb,agk,Tryz.results121])
theorem ahU:aH aai 124:=fun _ _=>by kernel_rfl
theorem Xa (p:Plan):aC aai 124 [.pd (plan p)] [.ak [I p.kind,I p.table,plans p.kids,NIL,ints p.cols,I p.col,I p.agg,attrs p.attrs]]:=by
 rw [aJ p]
 refine aC.mk Tryz.func124 rfl ahU (by simp [Tryz.ntmps124]) fun w G=>?_
 (refine dB [] 120 _ _ ?_; simp only [go_sem,Go.au.eu,jd,↓reduceIte,aau,SV.pd.injEq,PD.raw.injEq,agb,agk,Tryz.results124])
theorem ahV:aH aai 134:=fun _ _=>by kernel_rfl
theorem Xb (p:Plan):aC aai 134 [.pd (plan p)] [.ak [I p.kind,I p.table,plans p.kids,nD p.tests,ints p.cols,I 0,I p.agg,attrs p.attrs]]:=by
 rw [aJ p]
 refine aC.mk Tryz.func134 rfl ahV (by simp [Tryz.ntmps134]) fun w G=>?_
 (refine dB [] 120 _ _ ?_; simp only [go_sem,Go.au.eu,jd,↓reduceIte,aau,SV.pd.injEq,PD.raw.injEq,agb,agk,Tryz.results134])
theorem ahW:aH aai 137:=fun _ _=>by kernel_rfl
theorem Xc (p:Plan):aC aai 137 [.pd (plan p)] [.ak [I p.kind,I p.table,plans p.kids,nD p.tests,NIL,I 0,I 0,attrs p.attrs]]:=by
 rw [aJ p]
 refine aC.mk Tryz.func137 rfl ahW (by simp [Tryz.ntmps137]) fun w G=>?_
 (refine dB [] 120 _ _ ?_; simp only [go_sem,Go.au.eu,jd,↓reduceIte,aau,SV.pd.injEq,PD.raw.injEq,agb,agk,Tryz.results137])
theorem ak5:aH aai 73:=fun _ _=>by kernel_rfl
abbrev F (n:Nat):PD:=.raw (.func (.func n) #[] #[])
abbrev key (n:Int):Value:=.int .i64 n
def jS:jW:=[(key 1,.ak [I 0,F 119,F 120,F 121]),(key 2,.ak [I 1,F 122,F 123,F 124]),(key 3,.ak [I 1,F 125,F 126,F 117]),(key 4,.ak [I 2,F 127,F 128,F 118]),
 (key 5,.ak [I 2,F 129,F 130,F 118]),(key 6,.ak [I 2,F 129,F 131,F 118]),(key 7,.ak [I 1,F 132,F 133,F 134]),(key 8,.ak [I 1,F 135,F 136,F 137])]
theorem RN:aT aai 73 [] [.mp (jS.map (·.1)) (jS.map (·.2))]:=by
 refine aT.mk Tryz.func73 rfl ak5 (by simp [Tryz.ntmps73]) fun w G=>?_
 refine aQk ?_
 refine R.makeMap rfl rfl rfl (by (simp only [go_sem])) fun r hr hr0=>?_
 clear hr0
 refine aQk ?_
 refine R.jr (.inr rfl) rfl (ah (by (simp only [go_sem]))) rfl (by (simp only [go_sem]); try rfl) rfl rfl sQ rfl (by simp [bV]) (.inl hr) ?_
 apply ev8; simp only [go_sem,fK]
 refine R.jr (.inr rfl) rfl (ah (by (simp only [go_sem]))) rfl (by (simp only [go_sem]); try rfl) rfl rfl sQ rfl (by simp [bV]) (.inl hr) ?_
 apply ev8; simp only [go_sem,fK]
 refine R.jr (.inr rfl) rfl (ah (by (simp only [go_sem]))) rfl (by (simp only [go_sem]); try rfl) rfl rfl sQ rfl (by simp [bV]) (.inl hr) ?_
 apply ev8; simp only [go_sem,fK]
 refine R.jr (.inr rfl) rfl (ah (by (simp only [go_sem]))) rfl (by (simp only [go_sem]); try rfl) rfl rfl sQ rfl (by simp [bV]) (.inl hr) ?_
 apply ev8; simp only [go_sem,fK]
 refine R.jr (.inr rfl) rfl (ah (by (simp only [go_sem]))) rfl (by (simp only [go_sem]); try rfl) rfl rfl sQ rfl (by simp [bV]) (.inl hr) ?_
 apply ev8; simp only [go_sem,fK]
 refine R.jr (.inr rfl) rfl (ah (by (simp only [go_sem]))) rfl (by (simp only [go_sem]); try rfl) rfl rfl sQ rfl (by simp [bV]) (.inl hr) ?_
 apply ev8; simp only [go_sem,fK]
 refine R.jr (.inr rfl) rfl (ah (by (simp only [go_sem]))) rfl (by (simp only [go_sem]); try rfl) rfl rfl sQ rfl (by simp [bV]) (.inl hr) ?_
 apply ev8; simp only [go_sem,fK]
 refine R.jr (.inr rfl) rfl (ah (by (simp only [go_sem]))) rfl (by (simp only [go_sem]); try rfl) rfl rfl sQ rfl (by simp [bV]) (.inl hr) ?_
 apply ev8; simp only [go_sem,fK]
 refine R.FI r jS (by simp [St.map,lk,jS]) hr ?_
 simp only [go_sem,SV.thaw,PD.thaw,fK]
 refine R.rW ?_
 rfl
end Go.Proofs.Z
end
section
namespace Go.Proofs.Z
open Go Go.au Go.Proofs
set_option maxRecDepth 10000
set_option maxHeartbeats 4000000
theorem Dj (p:Plan):(plan p).width=8:=by rw [aJ]; rfl
theorem KT (p:Plan):(plan p).iI=true:=by rw [aJ]; rfl
theorem ahX:aH aai 147:=fun _ _=>by kernel_rfl
theorem ak6:aH aai 84:=fun _ _=>by kernel_rfl
theorem Gq (l:List Plan) (p:Plan→Bool):aC aai 147 [.pd (.list 8 (l.map plan)),.fn (decides plan p l)] [I (jJ p l)]:=by
 refine aC.mk Tryz.func147 rfl ahX (by simp [Tryz.ntmps147]) fun w G=>?_
 refine R.bound 0 (sz:=8) (ds:=l.map plan) rfl fun hl=>?_
 have hl:l.length≤9223372036854775807:=by simpa [maxLen] using hl
 (refine aA 40 _ _ ?_; simp only [go_sem])
 refine R.fam (fun k:Nat=>⟨19,[(0,.pd (.list 8 (l.map plan))),(1,.fn (decides plan p l)),(7,.pd (I l.length)),(8,.pd (I k))],[],[],[],[]⟩) (fun k=>k≤l.length∧(l.take k).any p=false) (fun k=>l.length - k) 0 ⟨by omega,by simp⟩ (by simp only [go_sem,I]; rfl) ?_
 rintro k ⟨hk,hinv⟩
 (refine aA 60 _ _ ?_; simp only [go_sem,I])
 refine ⟨fun h=>?_,fun h=>?_⟩
 ·have hlt:k<l.length:=by simpa using h
  (refine aA 60 _ _ ?_; simp only [go_sem,I,getD_map,hlt,Dj,KT])
  refine ⟨by omega,?_⟩
  refine R.y rfl (ah (by simp only [go_sem])) (.mM 11 _ _ _ _ (B (p l[k])) rfl rfl rfl ⟨l[k],aaO hlt,rfl,rfl⟩) ?_
  (refine aA 60 _ _ ?_; simp only [go_sem,B])
  refine ⟨fun h2=>?_,fun h2=>?_⟩
  ·(refine aA 60 _ _ ?_; simp only [go_sem])
   refine R.dK (vc:=True) ?_ trivial
   rw [mW hlt hinv h2]; rfl
  ·(refine aA 60 _ _ ?_; simp only [go_sem,wrapN (k:=k) (by omega)])
   refine R.jo (k+1) ⟨by omega,?_⟩ (by show _<_; omega) (by simp only [go_sem,I])
   rw [aaG hlt,arq,hinv]; simpa using h2
 ·have hge:¬ k<l.length:=by simpa using h
  (refine aA 60 _ _ ?_; simp only [go_sem])
  refine R.dK (vc:=True) ?_ trivial
  rw [adw (by omega)] at hinv
  rw [mX hinv]; rfl
theorem Dk (l:List Plan) (p:Plan→Bool):aC aai 84 [.pd (.list 8 (l.map plan)),.fn (decides plan p l)] [B (l.any p)]:=by
 refine aC.mk Tryz.func84 rfl ak6 (by simp [Tryz.ntmps84]) fun w G=>?_
 (refine aA 40 _ _ ?_; simp only [go_sem])
 refine R.ji (Gq l p) rfl rfl (.cons (.pd _) (.cons (.fn _) .nil)) (by simp) (by simp only [go_sem]) ?_
 (refine aA 40 _ _ ?_; simp only [go_sem,I])
 refine R.dK (vc:=True) ?_ trivial
 rw [← wG]; rfl
theorem adY:aH aai 38:=fun _ _=>by kernel_rfl
mutual
def grp:Plan→Bool
 | .mk k _ kids _ _ _ _ _=>k == 8 || Xd kids
def Xd:List Plan→Bool
 | []=>false
 | p::l=>grp p || Xd l
end
theorem RP:∀ l:List Plan,Xd l=l.any grp
 | []=>rfl
 | p::l=>by rw [Xd,RP l]; rfl
theorem Zh (p:Plan):grp p=(p.kind == 8 || p.kids.any grp):=by
 cases p; rw [grp,RP]; rfl
theorem yZ {p x:Plan} (h:x∈p.kids):SizeOf.sizeOf x<SizeOf.sizeOf p:=by
 cases p
 have:=List.sizeOf_lt_of_mem h
 simp only [Plan.kids] at this
 simp only [Plan.mk.sizeOf_spec]; omega
theorem Ou:∀ (n:Nat) (p:Plan),SizeOf.sizeOf p≤n→aC aai 38 [.pd (plan p)] [B (grp p)]
 | 0,p,h=>by cases p; simp at h
 | n+1,p,h=>by
  have ih:∀ x∈p.kids,aC aai 38 [.pd (plan x)] [B (grp x)]:=fun x hx=>Ou n x (by have:=yZ hx; omega)
  rw [aJ p]
  refine aC.mk Tryz.func38 rfl adY (by simp [Tryz.ntmps38]) fun w G=>?_
  refine aQk ?_
  refine R.vH (rs:=[B (p.kids.any grp)]) rfl rfl rfl rfl (fun _=>⟨by simp [nK,Op.operands,Call.operands,aU,St.get,lk,SV.unbox],.cons (.pd _) (.cons (Co.func 38 _ adY (by rintro es r ⟨x,hx,rfl,rfl⟩; exact ih x hx)) .nil),Dk p.kids grp⟩) (by simp [plain,PD.plain]) (by (simp only [go_sem])) ?_
  refine aQk ?_
  refine R.rC ?_
  have e:grp p=if (p.kind == 8)=true then true else p.kids.any grp:=by
   rw [Zh]; cases (p.kind == 8) <;> simp
  rw [e]; rfl
theorem Xe (p:Plan):aC aai 38 [.pd (plan p)] [B (grp p)]:=Ou _ p (aew _)
end Go.Proofs.Z
end
section
namespace Go.Proofs.Z
open Go Go.au Go.Proofs
set_option maxRecDepth 10000
set_option maxHeartbeats 4000000
theorem ahY:aH aai 157:=fun _ _=>by kernel_rfl
abbrev Zi:Value:=.iface 40 (.int .i64 3)
theorem Nq (n m:Int):eH aai 157 [.pd (I n),.pd (I m)] [] [] (fun res M'=>M'=[]∧if n≤m then res = .ret [] else res = .xZ Zi):=by
 refine eH.mk Tryz.func157 rfl ahY (by simp [Tryz.ntmps157]) fun w G=>?_
 refine aQk ?_
 refine ⟨fun h=>?_,fun h=>?_⟩
 ·have h:¬ n≤m:=by simpa using h
  refine aQk ?_
  refine R.xZ rfl rfl rfl ⟨rfl,?_⟩
  rw [adt h]
 ·have h:n≤m:=by simpa using h
  refine aQk ?_
  refine R.Wu (vc:=True) [] rfl trivial ⟨rfl,?_⟩ (fun r m h=>by simp [lk] at h)
  rw [adA h]
end Go.Proofs.Z
end
section
namespace Go.au
def fO (L:Array Bool):Nat:=(L.toList.zipIdx).foldl (fun m p=>if p.1 then m ||| 2 ^ p.2 else m) 0
def Zj (all:Array Oper) (m i:Nat):Bool:=!m.testBit i&&match all[i]? with | some o=>o.after.toList.all fun e=>!Region.binds .any e || m.testBit e.on | none=>false
def Xf (all:Array Oper) (es:List (Nat × Nat)):Bool:=
 true&&(0::es.map fun p=>p.1 ||| 2 ^ p.2).all fun m=>(List.range all.size).all fun i=>!Zj all m i || es.contains (m,i)
theorem Ov (j:Nat):∀ (l:List Bool) (n m:Nat),((l.zipIdx n).foldl (fun m p=>if p.1 then m ||| 2 ^ p.2 else m) m).testBit j=(m.testBit j || (decide (n≤j)&&(l.getD (j - n) false)))
 | [],n,m=>by simp
 | b::l,n,m=>by
  simp only [List.zipIdx_cons,List.foldl_cons]
  rw [Ov j l (n+1)]
  by_cases h:j=n
  ·subst h
   cases b with
   | false=>simp; intro h; omega
   | true=>simp
  ·have e:(if b=true then m ||| 2 ^ n else m).testBit j=m.testBit j:=by
    cases b
    ·simp
    ·simp [avn,atW,aqm h]
   rw [e]
   by_cases h2:n≤j
   ·have h3:n+1≤j:=by omega
    have h4:j - n=(j - (n+1))+1:=by omega
    simp only [h2,h3,apa,arv,h4,arX]
   ·have h3:¬ n+1≤j:=by omega
    simp [h2,h3]
theorem lq (L:Array Bool) (j:Nat):(fO L).testBit j=L.getD j false:=by
 unfold fO
 rw [Ov j L.toList 0 0]
 simp [adr,aax]
section
variable {C:Cx} {s:St} {all:Array Oper} {k:List KI}
theorem R.adZ {id:Nat} (T:Nat→St) (es:List (Nat × Nat)) (full:Nat) (hm:C.P.follows .mixedOrders=true) (hE:(all.toList.zipIdx).all (fun p=>uV p.2 p.1)=true) (hT:Xf all es=true) (hf:fO (Array.replicate all.size true)=full)
  (h0:R C (.code (.region id all true)::k) (T 0)→R C (.code (.region id all true)::k) s)
  (step:∀ p∈es,R C (.ops all ((all.toList.drop p.2).take 1) :: .aP (fun st=>st=T (p.1 ||| 2 ^ p.2))::k) (T p.1)) (done:R C k (T full)):R C (.code (.region id all true)::k) s:=by
 refine h0 ?_
 unfold Xf at hT
 simp only [af5] at hT
 have hT:=(afX.1 hT.2)
 refine R.Wi hm hE (fun L st=>st=T (fO L)∧fO L∈(0::es.map fun p=>p.1 ||| 2 ^ p.2)) ?_ ?_ ?_
 ·have:fO (Array.replicate all.size false)=0:=by
   apply atD
   intro j
   rw [lq]; simp [Array.getD]
  exact ⟨by rw [this],by rw [this]; exact aeC ..⟩
 ·rintro L st i o hs ho hun hall ⟨rfl,hmem⟩
  have hi:=(ad6.1 ho).1
  have hen:Zj all (fO L) i=true:=by
   unfold Zj
   rw [lq,hun,ho]
   simp only [asQ,arv,afX]
   intro e he
   rw [lq]
   cases hb:Region.binds .any e with
   | false=>rfl
   | true=>rw [hall e (by simpa using he) hb]; rfl
  have hin:=(afX.1 (hT _ hmem)) i (by simpa using hi)
  rw [hen] at hin
  have hin:(fO L,i)∈es:=by simpa using hin
  have hst:=step _ hin
  have hL:fO (L.setIfInBounds i true)=fO L ||| 2 ^ i:=by
   apply atD
   intro j
   rw [lq,avn,lq,atW]
   by_cases c:i=j
   ·subst c; rw [pG (by rw [hs]; exact hi)]; simp
   ·rw [getD_set_ne false c]; simp [c]
  have ho1:(all.toList.drop i).take 1=[o]:=by
   have:all.toList[i]? = some o:=by simpa using ho
   obtain ⟨h1,h2⟩:=apD.1 this
   rw [arG h1,h2]; rfl
  simp only [ho1] at hst
  have:(fun st=>st=T (fO L ||| 2 ^ i))=fun st=>st=T (fO (L.setIfInBounds i true)):=by rw [hL]
  rw [this] at hst
  intro a w E g
  have h1:=hst a w E g
  simp only [fin] at h1 ⊢
  have hq:∀ e a w,fin C (.aP (fun st=>st=T (fO (L.setIfInBounds i true)))::k) e a w→fin C (.aP (fun st=>st=T (fO (L.setIfInBounds i true))∧fO (L.setIfInBounds i true)∈(0::es.map fun p=>p.1 ||| 2 ^ p.2))::k) e a w:=by
   intro e a w h
   cases e with
   | normal=>
    obtain ⟨s',E',rfl,g'⟩:=h
    exact ⟨_,E',⟨rfl,aej _ (adE.2 ⟨_,hin,hL.symm⟩)⟩,g'⟩
   | exit _=>exact h
   | goto _=>exact h
   | ret=>exact h
   | panic _=>exact h
   | outgrown=>exact h
  simp only [wpList] at h1 ⊢
  split
  ·rename_i hw
   rw [adA hw] at h1
   rcases h1 with h1 | ⟨h1,a',w',h2⟩
   ·exact .inl (Oper.Jj (fun a w h=>hq .normal a w h) (fun e a w _ h=>hq e a w h) h1)
   ·exact .inr ⟨h1,a',w',hq _ _ _ h2⟩
  ·rename_i hw
   rw [adt hw] at h1
   exact hq .normal _ _ h1
 ·rintro st ⟨rfl,_⟩
  rw [hf]; exact done
end
end Go.au
end
