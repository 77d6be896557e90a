/- A part of the proof. -/
import Derived.Test.YtjbhhddfaohdnaaGreatDoorPBv
import Derived.Sort.Walk0
set_option linter.all false
set_option linter.deprecated false
open Go.Lib renaming toList_data→atb
open Go.Proofs.Tryz renaming prog→aai
namespace Go.Proofs.Z
open Go Go.au Go.Proofs
set_option maxRecDepth 10000
theorem ahc:aH aai 146:=fun _ _=>by kernel_rfl
theorem akX:aH aai 91:=fun _ _=>by kernel_rfl
theorem ahd:aH aai 158:=fun _ _=>by kernel_rfl
theorem akY:aH aai 90:=fun _ _=>by kernel_rfl
theorem AQ (a b:Int):aC aai 91 [.pd (I a),.pd (I b)] [I (bZ a b)]:=by
 refine aC.mk Tryz.func91 rfl akX (by simp [Tryz.ntmps91]) fun w G=>?_
 (refine kK [] 120 _ _ ?_; simp only [go_sem,sD,aau,SV.pd.injEq,ate,asX,Tryz.results91])
 refine ⟨fun h=>?_,fun h=>⟨fun h2=>?_,fun h2=>?_⟩⟩ <;> simp at h <;> (try simp at h2) <;> (congr 3; unfold bZ) <;> first | rw [adA h] | (rw [adt (by omega)]; first | rw [adA h2] | rw [adt (by omega)])
theorem toList_nil (t:ByteArray):(t.toList == ({ data:=#[] }:ByteArray).toList)=decide (t.size=0):=by
 have h1:t.toList=t.data.toList:=atb t
 have h2:({ data:=#[] }:ByteArray).toList=[]:=by rw [atb]
 rw [h1,h2]
 have h3:t.size=t.data.toList.length:=(Array.length_toList).symm
 rw [h3]
 generalize t.data.toList=l
 cases l <;> simp
theorem ifB (c d:Bool):(if c=true then d else false)=(c&&d):=by cases c <;> rfl
theorem oO (v:V):aC aai 146 [.pd (val v)] [B (dI v)]:=by
 refine aC.mk Tryz.func146 rfl ahc (by simp [Tryz.ntmps146]) fun w G=>?_
 (refine kK [] 120 _ _ ?_; simp only [go_sem,sD,aau,SV.pd.injEq,ate,asX,Tryz.results146,toList_nil,ifB])
 have hg:∀ a b:Int,(decide (a > b)=true)=(b<a):=by intros; simp
 by_cases k1:v.kind=1
 ·simp [dI,AO,k1]
  by_cases h:v.text.size≤200
  ·simp [h]; omega
  ·simp [h]; omega
 ·by_cases k0:v.text.size=0
  ·by_cases a0:v.kind=0
   ·simp [dI,AO,k0,a0]
   ·by_cases a2:v.kind=2
    ·simp [dI,AO,k0,a2]
    ·by_cases a3:v.kind=3
     ·simp [dI,AO,k0,a3]
     ·by_cases a4:v.kind=4
      ·simp [dI,AO,k0,a4]
      ·simp [dI,AO,k0,k1,a0,a2,a3,a4]
  ·simp [dI,k0,k1]
theorem adU (a b:ByteArray):Op.bytesLess a.toList b.toList=iR a b:=by
 unfold iR; rw [bytesLess_eq,atb,atb]
theorem YZ (a b:ByteArray):(iR a b || a.toList == b.toList) = !iR b a:=by
 unfold iR; rw [atb,atb]
 generalize a.data.toList=x
 generalize b.data.toList=y
 have h1:(x≤y)↔(x<y∨x=y):=List.le_iff_lt_or_eq
 have h2:¬ y<x↔x≤y:=List.not_lt
 by_cases h:y<x
 ·have:¬ (x<y∨x=y):=fun h3=>h2.2 (h1.2 h3) h
  simp only [not_or] at this
  simp [h,this.1,this.2]
 ·have:=h1.1 (h2.1 h)
  rcases this with h3 | h3
  ·simp [h,h3]
  ·simp [h3]
theorem Y0 (a b:ByteArray):aC aai 158 [.pd (S a),.pd (S b)] [I (wH a b)]:=by
 refine aC.mk Tryz.func158 rfl ahd (by simp [Tryz.ntmps158]) fun w G=>?_
 (refine kK [] 120 _ _ ?_; simp only [go_sem,sD,aau,SV.pd.injEq,ate,asX,Tryz.results158,adU,YZ])
 unfold wH
 cases iR a b <;> cases iR b a <;> simp
theorem IW (a b:V):aC aai 90 [.pd (val a),.pd (val b)] [I (nZ a b)]:=by
 refine aC.mk Tryz.func90 rfl akY (by simp [Tryz.ntmps90]) fun w G=>?_
 (refine kK [(11,.of (AQ a.kind b.kind)),(19,.of (AQ a.n b.n)),(27,.of (Y0 a.text b.text))] 120 _ _ ?_; simp only [go_sem,sD,aau,SV.pd.injEq,ate,asX,Tryz.results90])
 unfold nZ
 refine ⟨fun h=>?_,fun h=>⟨fun h2=>?_,fun h2=>?_⟩⟩ <;> simp at h <;> (try simp at h2)
 ·rw [adA h]
 ·rw [adt (by simp [h]),adA h2]
 ·rw [adt (by simp [h]),adt (by simp [h2])]
theorem adV:aH aai 44:=fun _ _=>by kernel_rfl
theorem Ru (m:List V):cZ [] m=bZ 0 m.length:=by
 cases m with
 | nil=>rfl
 | cons y m=>simp only [cZ,bZ,List.length_cons]; rw [adA (by omega)]
theorem Ot (m:List V):cZ m []=bZ m.length 0:=by
 cases m with
 | nil=>rfl
 | cons y m=>simp only [cZ,bZ,List.length_cons]; rw [adt (by omega),adA (by omega)]
theorem sF (a b:List V):aC aai 44 [.pd (vals a),.pd (vals b)] [I (cZ a b)]:=by
 refine aC.mk Tryz.func44 rfl adV (by simp [Tryz.ntmps44]) fun w G=>?_
 refine R.bound 0 (sz:=3) (ds:=a.map val) rfl fun hl=>?_
 have hl:a.length≤9223372036854775807:=by simpa [maxLen] using hl
 have hmin:(if (b.length:Int)<(a.length:Int) then (b.length:Int) else (a.length:Int))=((min a.length b.length:Nat):Int):=by
  split <;> omega
 apply aB; simp only [go_sem,aau,SV.pd.injEq,hmin]
 refine R.fU (fun (k:Nat) s=>St.lp [0,1,7,8,9,10,11,28,29,30,31,32] [(12,.pd (I k))] [] [] [] [] s) (fun (k:Nat)=>k≤a.length∧k≤b.length∧cZ a b=cZ (a.drop k) (b.drop k)) (fun (k:Nat)=>a.length - k) (0) (⟨by omega,by omega,by simp⟩) ?_
 rintro k ⟨hk,hkb,hinv⟩
 apply aB; simp only [go_sem,aau,SV.pd.injEq]
 refine ⟨fun h=>?_,fun h=>?_⟩
 ·have hlt:k<a.length∧k<b.length:=by simp at h; omega
  obtain ⟨hlt,lF⟩:=hlt
  rw [drop_cons hlt,drop_cons lF,cZ] at hinv
  apply aB; simp only [go_sem,aau,SV.pd.injEq]
  refine R.dA 8 80 mixed (by decide +kernel) ?_; simp only [go_sem,getD_map,hlt,lF]
  repeat refine ⟨by omega,?_⟩
  (refine iY (cs:=[(23,.of (IW a[k] b[k]))]) 80 _ _ ?_; simp only [go_sem,aau,SV.pd.injEq])
  refine ⟨fun h2=>?_,fun h2=>?_⟩
  ·apply aB; simp only [go_sem,aau,SV.pd.injEq]
   refine R.rC ?_
   rw [adA (by simpa using h2)] at hinv
   rw [hinv]; rfl
  ·apply aB; simp only [go_sem,aau,SV.pd.injEq,wrapN (k:=k) (by omega)]
   refine R.fE (k+1) ⟨by omega,by omega,by rw [adt (by simpa using h2)] at hinv; exact hinv⟩
 ·have hge:a.length≤k∨b.length≤k:=by simp at h; omega
  (refine iY (cs:=[(32,.of (AQ a.length b.length))]) 80 _ _ ?_; simp only [go_sem,aau,SV.pd.injEq])
  refine R.rC ?_
  have:cZ a b=bZ a.length b.length:=by
   rw [hinv]
   rcases hge with h1 | h1
   ·rw [agm h1,Ru,aqD]; unfold bZ; split <;> (try split) <;> (try split) <;> omega
   ·rw [agm h1,Ot,aqD]; unfold bZ; split <;> (try split) <;> (try split) <;> omega
  rw [this]; rfl
end Go.Proofs.Z
