/- A part of the proof. -/
import Derived.Test.YtjbhhddfaohdnaaGreatDoorPBv
import Derived.Sort.Walk0
set_option linter.all false
set_option linter.deprecated false
open Go.Lib renaming toList_data→apE
open Go.Proofs.Tryz renaming prog→abo
namespace Go.Proofs.Z
open Go Go.au Go.Proofs
set_option maxRecDepth 10000
theorem aek:aG abo 146:=fun _ _=>by kernel_rfl
theorem aia:aG abo 91:=fun _ _=>by kernel_rfl
theorem ael:aG abo 158:=fun _ _=>by kernel_rfl
theorem aib:aG abo 90:=fun _ _=>by kernel_rfl
theorem zV (a b:Int):aA abo 91 [.pd (I a),.pd (I b)] [I (bI a b)]:=by
 refine aA.mk Tryz.func91 rfl aia (by simp [Tryz.ntmps91]) fun w G=>?_
 (refine kL [] 120 _ _ ?_; simp only [go_sem,rJ,agk,SV.pd.injEq,apY,ap1,Tryz.results91])
 refine ⟨fun h=>?_,fun h=>⟨fun h2=>?_,fun h2=>?_⟩⟩ <;> simp at h <;> (try simp at h2) <;> (congr 3; unfold bI) <;> first | rw [ab8 h] | (rw [abQ (by omega)]; first | rw [ab8 h2] | rw [abQ (by omega)])
theorem toList_nil (t:ByteArray):(t.toList == ({ data:=#[] }:ByteArray).toList)=decide (t.size=0):=by
 have h1:t.toList=t.data.toList:=apE t
 have h2:({ data:=#[] }:ByteArray).toList=[]:=by rw [apE]
 rw [h1,h2]
 have h3:t.size=t.data.toList.length:=(Array.length_toList).symm
 rw [h3]
 generalize t.data.toList=l
 cases l <;> simp
theorem ifB (c d:Bool):(if c=true then d else false)=(c&&d):=by cases c <;> rfl
theorem oI (v:V):aA abo 146 [.pd (val v)] [B (dF v)]:=by
 refine aA.mk Tryz.func146 rfl aek (by simp [Tryz.ntmps146]) fun w G=>?_
 (refine kL [] 120 _ _ ?_; simp only [go_sem,rJ,agk,SV.pd.injEq,apY,ap1,Tryz.results146,toList_nil,ifB])
 have hg:∀ a b:Int,(decide (a > b)=true)=(b<a):=by intros; simp
 by_cases k1:v.kind=1
 ·simp [dF,zo,k1]
  by_cases h:v.text.size≤200
  ·simp [h]; omega
  ·simp [h]; omega
 ·by_cases k0:v.text.size=0
  ·by_cases a0:v.kind=0
   ·simp [dF,zo,k0,a0]
   ·by_cases a2:v.kind=2
    ·simp [dF,zo,k0,a2]
    ·by_cases a3:v.kind=3
     ·simp [dF,zo,k0,a3]
     ·by_cases a4:v.kind=4
      ·simp [dF,zo,k0,a4]
      ·simp [dF,zo,k0,k1,a0,a2,a3,a4]
  ·simp [dF,k0,k1]
theorem abU (a b:ByteArray):Op.bytesLess a.toList b.toList=iH a b:=by
 unfold iH; rw [bytesLess_eq,apE,apE]
theorem Xh (a b:ByteArray):(iH a b || a.toList == b.toList) = !iH b a:=by
 unfold iH; rw [apE,apE]
 generalize a.data.toList=x
 generalize b.data.toList=y
 have h1:(x≤y)↔(x<y∨x=y):=List.le_iff_lt_or_eq
 have h2:¬ y<x↔x≤y:=List.not_lt
 by_cases h:y<x
 ·have:¬ (x<y∨x=y):=fun h3=>h2.2 (h1.2 h3) h
  simp only [not_or] at this
  simp [h,this.1,this.2]
 ·have:=h1.1 (h2.1 h)
  rcases this with h3 | h3
  ·simp [h,h3]
  ·simp [h3]
theorem Xi (a b:ByteArray):aA abo 158 [.pd (S a),.pd (S b)] [I (uO a b)]:=by
 refine aA.mk Tryz.func158 rfl ael (by simp [Tryz.ntmps158]) fun w G=>?_
 (refine kL [] 120 _ _ ?_; simp only [go_sem,rJ,agk,SV.pd.injEq,apY,ap1,Tryz.results158,abU,Xh])
 unfold uO
 cases iH a b <;> cases iH b a <;> simp
theorem GU (a b:V):aA abo 90 [.pd (val a),.pd (val b)] [I (nI a b)]:=by
 refine aA.mk Tryz.func90 rfl aib (by simp [Tryz.ntmps90]) fun w G=>?_
 (refine kL [(11,.of (zV a.kind b.kind)),(19,.of (zV a.n b.n)),(27,.of (Xi a.text b.text))] 120 _ _ ?_; simp only [go_sem,rJ,agk,SV.pd.injEq,apY,ap1,Tryz.results90])
 unfold nI
 refine ⟨fun h=>?_,fun h=>⟨fun h2=>?_,fun h2=>?_⟩⟩ <;> simp at h <;> (try simp at h2)
 ·rw [ab8 h]
 ·rw [abQ (by simp [h]),ab8 h2]
 ·rw [abQ (by simp [h]),abQ (by simp [h2])]
theorem aic:aG abo 44:=fun _ _=>by kernel_rfl
theorem OQ (m:List V):dw [] m=bI 0 m.length:=by
 cases m with
 | nil=>rfl
 | cons y m=>simp only [dw,bI,List.length_cons]; rw [ab8 (by omega)]
theorem LM (m:List V):dw m []=bI m.length 0:=by
 cases m with
 | nil=>rfl
 | cons y m=>simp only [dw,bI,List.length_cons]; rw [abQ (by omega),ab8 (by omega)]
theorem QH (a b:List V):aA abo 44 [.pd (vals a),.pd (vals b)] [I (dw a b)]:=by
 refine aA.mk Tryz.func44 rfl aic (by simp [Tryz.ntmps44]) fun w G=>?_
 refine R.bound 0 (sz:=3) (ds:=a.map val) rfl fun hl=>?_
 have hl:a.length≤9223372036854775807:=by simpa [maxLen] using hl
 have hmin:(if (b.length:Int)<(a.length:Int) then (b.length:Int) else (a.length:Int))=((min a.length b.length:Nat):Int):=by
  split <;> omega
 apply aC; simp only [go_sem,agk,SV.pd.injEq,hmin]
 refine R.fU (fun (k:Nat) s=>St.lp [0,1,7,8,9,10,11,28,29,30,31,32] [(12,.pd (I k))] [] [] [] [] s) (fun (k:Nat)=>k≤a.length∧k≤b.length∧dw a b=dw (a.drop k) (b.drop k)) (fun (k:Nat)=>a.length - k) (0) (⟨by omega,by omega,by simp⟩) ?_
 rintro k ⟨hk,hkb,hinv⟩
 apply aC; simp only [go_sem,agk,SV.pd.injEq]
 refine ⟨fun h=>?_,fun h=>?_⟩
 ·have hlt:k<a.length∧k<b.length:=by simp at h; omega
  obtain ⟨hlt,lQ⟩:=hlt
  rw [drop_cons hlt,drop_cons lQ,dw] at hinv
  apply aC; simp only [go_sem,agk,SV.pd.injEq]
  refine R.aO 8 80 mixed (by decide +kernel) ?_; simp only [go_sem,getD_map,hlt,lQ]
  repeat refine ⟨by omega,?_⟩
  (refine iV (cs:=[(23,.of (GU a[k] b[k]))]) 80 _ _ ?_; simp only [go_sem,agk,SV.pd.injEq])
  refine ⟨fun h2=>?_,fun h2=>?_⟩
  ·apply aC; simp only [go_sem,agk,SV.pd.injEq]
   refine R.rC ?_
   rw [ab8 (by simpa using h2)] at hinv
   rw [hinv]; rfl
  ·apply aC; simp only [go_sem,agk,SV.pd.injEq,wrapN (k:=k) (by omega)]
   refine R.fE (k+1) ⟨by omega,by omega,by rw [abQ (by simpa using h2)] at hinv; exact hinv⟩
 ·have hge:a.length≤k∨b.length≤k:=by simp at h; omega
  (refine iV (cs:=[(32,.of (zV a.length b.length))]) 80 _ _ ?_; simp only [go_sem,agk,SV.pd.injEq])
  refine R.rC ?_
  have:dw a b=bI a.length b.length:=by
   rw [hinv]
   rcases hge with h1 | h1
   ·rw [adG h1,OQ,amy]; unfold bI; split <;> (try split) <;> (try split) <;> omega
   ·rw [adG h1,LM,amy]; unfold bI; split <;> (try split) <;> (try split) <;> omega
  rw [this]; rfl
end Go.Proofs.Z
