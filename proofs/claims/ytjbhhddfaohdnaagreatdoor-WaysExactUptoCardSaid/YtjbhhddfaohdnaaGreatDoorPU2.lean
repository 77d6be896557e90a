/- A part of the proof. -/
import Derived.Test.YtjbhhddfaohdnaaGreatDoorPU1
set_option linter.all false
set_option linter.deprecated false
open List renaming length→aeK
open Option renaming map→aii
namespace Go.Proofs.Z
open Go Go.au Go.Proofs
set_option maxRecDepth 10000
set_option maxHeartbeats 4000000
theorem agv:aH Tryz.prog 135:=fun _ _=>by kernel_rfl
def oW (r:Option (List Attr)):List Attr:=r.getD []
theorem aaH (l:List Attr) (cols:List Int) (hc:cols.length≤1000000000) (hb:l.length≤9223372036854775807):Xv Tryz.prog 197 [.pd (attrs l),.pd (ints cols)] ⟨84,6,(oW (dM l cols)).map attr⟩ (B (dM l cols).isSome):=by
 refine Xv.mk Tryz.func197 rfl X3 (by simp [Tryz.ntmps197]) fun w G=>?_
 refine aNF ?_
 refine R.jT 6 6 84 6 (by (simp only [go_sem])) rfl rfl ?_
 simp only [go_sem]
 refine aNF ?_
 refine R.fU (fun (k:Nat × List Attr) s=>St.lp [0,9,10,31] [(11,.pd (I k.1)),(6,.own 6)] [] [] [] [(6,⟨84,6,k.2.map attr⟩)] s) (fun (k:Nat × List Attr)=>k.1≤cols.length∧dM l (cols.take k.1)=some k.2) (fun (k:Nat × List Attr)=>cols.length - k.1) ((0,[])) (⟨by show 0≤_; omega,by simp [dM]⟩) ?_
 rintro ⟨k,out⟩ ⟨hk,hinv⟩
 have hk:k≤cols.length:=hk
 have hinv:dM l (cols.take k)=some out:=hinv
 have hol:=sK _ _ _ hinv
 rw [akY] at hol
 refine aNF ?_
 refine ⟨fun h=>?_,fun h=>?_⟩
 ·have hlt:k<cols.length:=by simpa using h
  have hsn:=xM l cols[k] _ _ hinv
  rw [← ab3 hlt] at hsn
  apply aA; simp only [go_sem,ab1,SV.pd.injEq,getD_map,hlt]
  repeat refine ⟨by omega,?_⟩
  refine ⟨fun h2=>?_,fun h2=>?_⟩
  ·have hno:¬ (0≤cols[k]∧cols[k].toNat<l.length):=by
    split at h2 <;> simp at * <;> omega
   have hall:dM l cols=none:=by
    have e:=akR k cols
    rw [drop_cons hlt] at e
    rw [← e]; exact xO l _ hno _ _
   rw [hall]
   refine aNF ?_
   refine R.jT 4 9 84 6 (by (simp only [go_sem])) rfl rfl ?_
   simp only [go_sem]
   exact R.TQ rfl rfl rfl rfl
  ·have hyes:0≤cols[k]∧cols[k].toNat<l.length:=by
    split at h2 <;> simp at * <;> omega
   have hcast:((cols[k].toNat:Nat):Int)=cols[k]:=anJ hyes.1
   rw [apn hyes] at hsn
   generalize cols[k].toNat=q at hcast hyes hsn
   rw [← hcast]
   have hq:=hyes.2
   apply aA; simp only [go_sem,ab1,SV.pd.injEq,getD_map,hq]
   repeat refine ⟨by omega,?_⟩
   refine R.dL 1000000000 80 rfl rfl (by (simp only [go_sem])) rfl rfl rfl rfl sl28 rfl yO (by simp) (congrArg (aii aeK) yP) rfl AV (by simp; omega) (by decide) (by decide) ?_
   apply ev8; simp only [go_sem,wrapN (k:=k) (by omega)]
   refine R.fE (k+1,out++[l[q]]) ⟨by show k+1≤_; omega,hsn⟩ (hm:=by show _<_; simp; omega) (l:=by (simp only [go_sem,aeh]); all_goals (and_intros <;> rfl))
 ·have hge:¬ k<cols.length:=by simpa using h
  rw [acw (by omega)] at hinv
  rw [hinv]
  refine aNF ?_
  exact R.TQ rfl rfl rfl rfl
def kH (nm:ByteArray) (kind:Int):Attr:=⟨nm,kind,[],V.zero⟩
def nU (p q:Plan):Option (List Attr × Bool):=match dM q.attrs p.cols with
 | none=>none
 | some out=>if p.attrs.length≠out.length+1∨p.agg<1∨4<p.agg then none else
  let nm:=(p.attrs.map (·.name)).getD out.length ByteArray.empty
  if p.agg=1 then some (out++[kH nm 2],decide (p.col = -1))
  else if p.col<0∨(q.attrs.length:Int)≤p.col then some (out++[kH nm 2],false)
  else if p.agg=2 then some (out++[kH nm 2],(q.attrs.map (·.kind)).getD p.col.toNat 0 == 2)
  else some (out++[kH nm ((q.attrs.map (·.kind)).getD p.col.toNat 0)],true)
def LH (r:Option (List Attr × Bool)):List PD:=match r with | some (l,b)=>[attrs l,B b] | none=>[NIL,B false]
theorem BP (nm:ByteArray) (kind:Int):BK (.list 6 [.aj [S nm,I kind,NIL,I 0,I 0,S ByteArray.empty]]) (.list 6 [attr (kH nm kind)]):=
 .list 6 rfl (fun i hi=>by
  have:i=0:=by simpa using hi
  subst this
  exact ⟨_,_,rfl,rfl,.cons (.same _) (.cons (.same _) (.cons (.nil 1) (.cons (.same _) (.cons (.same _) (.cons (.same _) .nil)))))⟩)
theorem aaI (p q:Plan) (tl:List bU) (hk:p.kids=[q]) (hb:q.attrs.length≤100000000) (hc:p.cols.length≤100000000):aS Tryz.prog 135 [.pd (mX p tl)] (LH (nU p q)):=by
 refine aS.mk Tryz.func135 rfl agv (by simp [Tryz.ntmps135]) fun w G=>?_
 simp only [mX,hk,ab9,acH,aN q]
 apply aA; simp only [go_sem,ab1,SV.pd.injEq,Int.toNat_zero,Int.toNat_one,aN q]
 repeat refine ⟨by omega,?_⟩
 refine R.ZQ (by rfl) 5 (by rfl) rfl rfl rfl rfl rfl rfl rfl rfl rfl rfl rfl rfl (by (simp only [go_sem])) (by decide) (.cons (.pd _) (.cons (.pd _) .nil)) (aaH q.attrs p.cols (by omega) (by omega)) ?_
 cases hp:dM q.attrs p.cols with
 | none=>
  have hr:nU p q=none:=by unfold nU; rw [hp]
  simp only [Option.isSome_none]
  rw [hr]
  refine aNG ?_
  refine R.rW ?_
  rfl
 | some out=>
  have hol:=sK _ _ _ hp
  simp only [Option.isSome_some,oW,Option.getD_some]
  by_cases c1:p.attrs.length≠out.length+1
  ·have hr:nU p q=none:=by unfold nU; rw [hp]; simp [c1]
   have e1:((p.attrs.length:Int) != ((out.length+1:Nat):Int))=true:=by simp only [bne_iff_ne,ne_eq]; omega
   rw [hr]
   apply ak; simp only [go_sem,↓reduceIte,wrapN (k:=out.length) (by omega),e1]
   refine R.rW ?_
   rfl
  have c1:p.attrs.length=out.length+1:=Classical.not_not.1 c1
  have e1:((p.attrs.length:Int) != ((out.length+1:Nat):Int))=false:=by simp only [bne_eq_false_iff_eq]; omega
  by_cases c2:p.agg<1
  ·have hr:nU p q=none:=by unfold nU; rw [hp]; simp [c2]
   have e2:decide (p.agg<1)=true:=anH c2
   rw [hr]
   apply ak; simp only [go_sem,↓reduceIte,wrapN (k:=out.length) (by omega),e1,e2]
   refine R.rW ?_
   rfl
  have e2:decide (p.agg<1)=false:=amY c2
  by_cases c3:p.agg > 4
  ·have hr:nU p q=none:=by unfold nU; rw [hp]; simp [c3]
   have e3:decide (p.agg > 4)=true:=anH c3
   rw [hr]
   apply ak; simp only [go_sem,↓reduceIte,wrapN (k:=out.length) (by omega),e1,e2,e3]
   refine R.rW ?_
   rfl
  have e3:decide (p.agg > 4)=false:=amY c3
  have Ho:out.length<p.attrs.length:=by omega
  have hnm:(p.attrs.map (·.name)).getD out.length ByteArray.empty=p.attrs[out.length].name:=by simp [Ho]
  have hr0:nU p q=if p.agg=1 then some (out++[kH p.attrs[out.length].name 2],decide (p.col = -1))
    else if p.col<0∨(q.attrs.length:Int)≤p.col then some (out++[kH p.attrs[out.length].name 2],false)
    else if p.agg=2 then some (out++[kH p.attrs[out.length].name 2],(q.attrs.map (·.kind)).getD p.col.toNat 0 == 2)
    else some (out++[kH p.attrs[out.length].name ((q.attrs.map (·.kind)).getD p.col.toNat 0)],true):=by
   unfold nU; rw [hp]; simp only [hnm]; rw [acg (by omega)]
  by_cases a1:p.agg=1
  ·have hr:nU p q=some (out++[kH p.attrs[out.length].name 2],decide (p.col = -1)):=by rw [hr0,acA a1]
   have f1:(p.agg == 1)=true:=by simp [a1]
   apply ak; simp only [go_sem,↓reduceIte,wrapN (k:=out.length) (by omega),e1,e2,e3,getD_map,Ho,f1]
   repeat refine ⟨by omega,?_⟩
   refine R.up 100 (by (simp only [go_sem])) rfl (BP _ _) ?_
   simp only [go_sem]
   refine R.dL (d:=attr (kH p.attrs[out.length].name 2)) 1000000000 80 rfl rfl (by (simp only [go_sem])) rfl rfl rfl rfl sl28 rfl yO (by simp) (congrArg (aii aeK) yP) rfl AV (by simp; omega) (by decide) (by decide) ?_
   refine aNF ?_
   refine R.bZ 5 rfl rfl ?_
   simp only [go_sem]
   refine R.rW ?_
   rw [hr]; simp only [LH,attrs,aeh,ab9,acH]; rfl
  have f1:(p.agg == 1)=false:=by simp [a1]
  rw [acg a1] at hr0
  by_cases a2:p.col<0
  ·have hr:nU p q=some (out++[kH p.attrs[out.length].name 2],false):=by rw [hr0,acA (.inl a2)]
   have f2:decide (p.col<0)=true:=anH a2
   apply ak; simp only [go_sem,↓reduceIte,wrapN (k:=out.length) (by omega),e1,e2,e3,getD_map,Ho,f1,f2]
   repeat refine ⟨by omega,?_⟩
   apply ak; simp only [go_sem,↓reduceIte,wrapN (k:=out.length) (by omega),e1,e2,e3,getD_map,Ho,f1,f2]
   repeat refine ⟨by omega,?_⟩
   refine R.up 100 (by (simp only [go_sem])) rfl (BP _ _) ?_
   simp only [go_sem]
   refine R.dL (d:=attr (kH p.attrs[out.length].name 2)) 1000000000 80 rfl rfl (by (simp only [go_sem])) rfl rfl rfl rfl sl28 rfl yO (by simp) (congrArg (aii aeK) yP) rfl AV (by simp; omega) (by decide) (by decide) ?_
   refine aNF ?_
   refine R.bZ 5 rfl rfl ?_
   simp only [go_sem]
   refine R.rW ?_
   rw [hr]; simp only [LH,attrs,aeh,ab9,acH]; rfl
  have f2:decide (p.col<0)=false:=amY a2
  by_cases a3:p.col≥(q.attrs.length:Int)
  ·have hr:nU p q=some (out++[kH p.attrs[out.length].name 2],false):=by rw [hr0,acA (.inr a3)]
   have f3:decide (p.col≥(q.attrs.length:Int))=true:=anH a3
   apply ak; simp only [go_sem,↓reduceIte,wrapN (k:=out.length) (by omega),e1,e2,e3,getD_map,Ho,f1,f2,f3]
   repeat refine ⟨by omega,?_⟩
   apply ak; simp only [go_sem,↓reduceIte,wrapN (k:=out.length) (by omega),e1,e2,e3,getD_map,Ho,f1,f2,f3]
   repeat refine ⟨by omega,?_⟩
   refine R.up 100 (by (simp only [go_sem])) rfl (BP _ _) ?_
   simp only [go_sem]
   refine R.dL (d:=attr (kH p.attrs[out.length].name 2)) 1000000000 80 rfl rfl (by (simp only [go_sem])) rfl rfl rfl rfl sl28 rfl yO (by simp) (congrArg (aii aeK) yP) rfl AV (by simp; omega) (by decide) (by decide) ?_
   refine aNF ?_
   refine R.bZ 5 rfl rfl ?_
   simp only [go_sem]
   refine R.rW ?_
   rw [hr]; simp only [LH,attrs,aeh,ab9,acH]; rfl
  have f3:decide (p.col≥(q.attrs.length:Int))=false:=amY a3
  rw [acg (by omega)] at hr0
  obtain ⟨c,hcc⟩:=aqi (Int.not_lt.1 a2)
  have hcl:c<q.attrs.length:=by omega
  have hkd:(q.attrs.map (·.kind)).getD p.col.toNat 0=q.attrs[c].kind:=by rw [hcc]; simp [hcl]
  rw [hkd] at hr0
  have f5:decide ((c:Int)<0)=false:=by apply amY; omega
  have f6:decide ((c:Int)≥(q.attrs.length:Int))=false:=by apply amY; omega
  by_cases a4:p.agg=2
  ·have hr:nU p q=some (out++[kH p.attrs[out.length].name 2],q.attrs[c].kind == 2):=by rw [hr0,acA a4]
   have f4:(p.agg == 2)=true:=by simp [a4]
   apply ak; simp only [go_sem,↓reduceIte,wrapN (k:=out.length) (by omega),e1,e2,e3,getD_map,Ho,f1,f4,f5,f6,hcc,hcl]
   repeat refine ⟨by omega,?_⟩
   apply ak; simp only [go_sem,↓reduceIte,wrapN (k:=out.length) (by omega),e1,e2,e3,getD_map,Ho,f1,f4,f5,f6,hcc,hcl]
   repeat refine ⟨by omega,?_⟩
   refine R.up 100 (by (simp only [go_sem])) rfl (BP _ _) ?_
   simp only [go_sem]
   refine R.dL (d:=attr (kH p.attrs[out.length].name 2)) 1000000000 80 rfl rfl (by (simp only [go_sem])) rfl rfl rfl rfl sl28 rfl yO (by simp) (congrArg (aii aeK) yP) rfl AV (by simp; omega) (by decide) (by decide) ?_
   refine aNF ?_
   refine R.bZ 5 rfl rfl ?_
   simp only [go_sem]
   refine R.rW ?_
   rw [hr]; simp only [LH,attrs,aeh,ab9,acH]; rfl
  ·have hr:nU p q=some (out++[kH p.attrs[out.length].name q.attrs[c].kind],true):=by rw [hr0,acg a4]
   have f4:(p.agg == 2)=false:=by simp [a4]
   apply ak; simp only [go_sem,↓reduceIte,wrapN (k:=out.length) (by omega),e1,e2,e3,getD_map,Ho,f1,f4,f5,f6,hcc,hcl]
   repeat refine ⟨by omega,?_⟩
   apply ak; simp only [go_sem,↓reduceIte,wrapN (k:=out.length) (by omega),e1,e2,e3,getD_map,Ho,f1,f4,f5,f6,hcc,hcl]
   repeat refine ⟨by omega,?_⟩
   refine R.up 100 (by (simp only [go_sem])) rfl (BP _ _) ?_
   simp only [go_sem]
   refine R.dL (d:=attr (kH p.attrs[out.length].name q.attrs[c].kind)) 1000000000 80 rfl rfl (by (simp only [go_sem])) rfl rfl rfl rfl sl28 rfl yO (by simp) (congrArg (aii aeK) yP) rfl AV (by simp; omega) (by decide) (by decide) ?_
   refine aNF ?_
   refine R.bZ 5 rfl rfl ?_
   simp only [go_sem]
   refine R.rW ?_
   rw [hr]; simp only [LH,attrs,aeh,ab9,acH]; rfl
end Go.Proofs.Z
