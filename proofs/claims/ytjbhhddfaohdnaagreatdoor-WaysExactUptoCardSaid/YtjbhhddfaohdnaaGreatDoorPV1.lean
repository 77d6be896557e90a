/- A part of the proof. -/
import Derived.Test.YtjbhhddfaohdnaaGreatDoorPBv
import Derived.Sort.Walk0
set_option linter.all false
set_option linter.deprecated false
open Go.Lib renaming toList_data→aqu
open Go.Proofs.Tryz renaming prog→abZ
namespace Go.Proofs.Z
open Go Go.au Go.Proofs
set_option maxRecDepth 10000
theorem afy:aH abZ 146:=fun _ _=>by kernel_rfl
theorem ajc:aH abZ 91:=fun _ _=>by kernel_rfl
theorem afz:aH abZ 158:=fun _ _=>by kernel_rfl
theorem ajd:aH abZ 90:=fun _ _=>by kernel_rfl
theorem zN (a b:Int):aF abZ 91 [.pd (I a),.pd (I b)] [I (dh a b)]:=by
 refine aF.mk Tryz.func91 rfl ajc (by simp [Tryz.ntmps91]) fun w G=>?_
 (refine kR [] 120 _ _ ?_; simp only [go_sem,uI,ab1,SV.pd.injEq,arp,aqT,Tryz.results91])
 refine ⟨fun h=>?_,fun h=>⟨fun h2=>?_,fun h2=>?_⟩⟩ <;> simp at h <;> (try simp at h2) <;> (congr 3; unfold dh) <;> first | rw [acA h] | (rw [acg (by omega)]; first | rw [acA h2] | rw [acg (by omega)])
theorem toList_nil (t:ByteArray):(t.toList == ({ data:=#[] }:ByteArray).toList)=decide (t.size=0):=by
 have h1:t.toList=t.data.toList:=aqu t
 have h2:({ data:=#[] }:ByteArray).toList=[]:=by rw [aqu]
 rw [h1,h2]
 have h3:t.size=t.data.toList.length:=(Array.length_toList).symm
 rw [h3]
 generalize t.data.toList=l
 cases l <;> simp
theorem ifB (c d:Bool):(if c=true then d else false)=(c&&d):=by cases c <;> rfl
theorem nR (v:V):aF abZ 146 [.pd (val v)] [B (dA v)]:=by
 refine aF.mk Tryz.func146 rfl afy (by simp [Tryz.ntmps146]) fun w G=>?_
 (refine kR [] 120 _ _ ?_; simp only [go_sem,uI,ab1,SV.pd.injEq,arp,aqT,Tryz.results146,toList_nil,ifB])
 have hg:∀ a b:Int,(decide (a > b)=true)=(b<a):=by intros; simp
 by_cases k1:v.kind=1
 ·simp [dA,zL,k1]
  by_cases h:v.text.size≤200
  ·simp [h]; omega
  ·simp [h]; omega
 ·by_cases k0:v.text.size=0
  ·by_cases a0:v.kind=0
   ·simp [dA,zL,k0,a0]
   ·by_cases a2:v.kind=2
    ·simp [dA,zL,k0,a2]
    ·by_cases a3:v.kind=3
     ·simp [dA,zL,k0,a3]
     ·by_cases a4:v.kind=4
      ·simp [dA,zL,k0,a4]
      ·simp [dA,zL,k0,k1,a0,a2,a3,a4]
  ·simp [dA,k0,k1]
theorem aje (a b:ByteArray):Op.bytesLess a.toList b.toList=iG a b:=by
 unfold iG; rw [bytesLess_eq,aqu,aqu]
theorem afA (a b:ByteArray):(iG a b || a.toList == b.toList) = !iG b a:=by
 unfold iG; rw [aqu,aqu]
 generalize a.data.toList=x
 generalize b.data.toList=y
 have h1:(x≤y)↔(x<y∨x=y):=List.le_iff_lt_or_eq
 have h2:¬ y<x↔x≤y:=List.not_lt
 by_cases h:y<x
 ·have:¬ (x<y∨x=y):=fun h3=>h2.2 (h1.2 h3) h
  simp only [not_or] at this
  simp [h,this.1,this.2]
 ·have:=h1.1 (h2.1 h)
  rcases this with h3 | h3
  ·simp [h,h3]
  ·simp [h3]
theorem XK (a b:ByteArray):aF abZ 158 [.pd (S a),.pd (S b)] [I (wW a b)]:=by
 refine aF.mk Tryz.func158 rfl afz (by simp [Tryz.ntmps158]) fun w G=>?_
 (refine kR [] 120 _ _ ?_; simp only [go_sem,uI,ab1,SV.pd.injEq,arp,aqT,Tryz.results158,aje,afA])
 unfold wW
 cases iG a b <;> cases iG b a <;> simp
theorem Hl (a b:V):aF abZ 90 [.pd (val a),.pd (val b)] [I (oP a b)]:=by
 refine aF.mk Tryz.func90 rfl ajd (by simp [Tryz.ntmps90]) fun w G=>?_
 (refine kR [(11,.of (zN a.kind b.kind)),(19,.of (zN a.n b.n)),(27,.of (XK a.text b.text))] 120 _ _ ?_; simp only [go_sem,uI,ab1,SV.pd.injEq,arp,aqT,Tryz.results90])
 unfold oP
 refine ⟨fun h=>?_,fun h=>⟨fun h2=>?_,fun h2=>?_⟩⟩ <;> simp at h <;> (try simp at h2)
 ·rw [acA h]
 ·rw [acg (by simp [h]),acA h2]
 ·rw [acg (by simp [h]),acg (by simp [h2])]
theorem acB:aH abZ 44:=fun _ _=>by kernel_rfl
theorem aav (m:List V):dn [] m=dh 0 m.length:=by
 cases m with
 | nil=>rfl
 | cons y m=>simp only [dn,dh,List.length_cons]; rw [acA (by omega)]
theorem XL (m:List V):dn m []=dh m.length 0:=by
 cases m with
 | nil=>rfl
 | cons y m=>simp only [dn,dh,List.length_cons]; rw [acg (by omega),acA (by omega)]
theorem ru (a b:List V):aF abZ 44 [.pd (vals a),.pd (vals b)] [I (dn a b)]:=by
 refine aF.mk Tryz.func44 rfl acB (by simp [Tryz.ntmps44]) fun w G=>?_
 refine R.bound 0 (sz:=3) (ds:=a.map val) rfl fun hl=>?_
 have hl:a.length≤9223372036854775807:=by simpa [maxLen] using hl
 have hmin:(if (b.length:Int)<(a.length:Int) then (b.length:Int) else (a.length:Int))=((min a.length b.length:Nat):Int):=by
  split <;> omega
 apply aA; simp only [go_sem,ab1,SV.pd.injEq,hmin]
 refine R.fU (fun (k:Nat) s=>St.lp [0,1,7,8,9,10,11,28,29,30,31,32] [(12,.pd (I k))] [] [] [] [] s) (fun (k:Nat)=>k≤a.length∧k≤b.length∧dn a b=dn (a.drop k) (b.drop k)) (fun (k:Nat)=>a.length - k) (0) (⟨by omega,by omega,by simp⟩) ?_
 rintro k ⟨hk,hkb,hinv⟩
 apply aA; simp only [go_sem,ab1,SV.pd.injEq]
 refine ⟨fun h=>?_,fun h=>?_⟩
 ·have hlt:k<a.length∧k<b.length:=by simp at h; omega
  obtain ⟨hlt,ny⟩:=hlt
  rw [drop_cons hlt,drop_cons ny,dn] at hinv
  apply aA; simp only [go_sem,ab1,SV.pd.injEq]
  refine R.dB 8 80 mixed (by decide +kernel) ?_; simp only [go_sem,getD_map,hlt,ny]
  repeat refine ⟨by omega,?_⟩
  (refine jF (cs:=[(23,.of (Hl a[k] b[k]))]) 80 _ _ ?_; simp only [go_sem,ab1,SV.pd.injEq])
  refine ⟨fun h2=>?_,fun h2=>?_⟩
  ·apply aA; simp only [go_sem,ab1,SV.pd.injEq]
   refine R.rC ?_
   rw [acA (by simpa using h2)] at hinv
   rw [hinv]; rfl
  ·apply aA; simp only [go_sem,ab1,SV.pd.injEq,wrapN (k:=k) (by omega)]
   refine R.fE (k+1) ⟨by omega,by omega,by rw [acg (by simpa using h2)] at hinv; exact hinv⟩
 ·have hge:a.length≤k∨b.length≤k:=by simp at h; omega
  (refine jF (cs:=[(32,.of (zN a.length b.length))]) 80 _ _ ?_; simp only [go_sem,ab1,SV.pd.injEq])
  refine R.rC ?_
  have:dn a b=dh a.length b.length:=by
   rw [hinv]
   rcases hge with h1 | h1
   ·rw [ag2 h1,aav,aoH]; unfold dh; split <;> (try split) <;> (try split) <;> omega
   ·rw [ag2 h1,XL,aoH]; unfold dh; split <;> (try split) <;> (try split) <;> omega
  rw [this]; rfl
end Go.Proofs.Z
