/- A part of the proof. -/
import Derived.Test.YtjbhhddfaohdnaaGreatDoorPU1
set_option linter.all false
set_option linter.deprecated false
open List renaming length→af0
open Option renaming map→aiA
namespace Go.Proofs.Z
open Go Go.au Go.Proofs
set_option maxRecDepth 10000
set_option maxHeartbeats 4000000
theorem ah3:aH Tryz.prog 135:=fun _ _=>by kernel_rfl
def qc (r:Option (List Attr)):List Attr:=r.getD []
theorem abX (l:List Attr) (cols:List Int) (hc:cols.length≤1000000000) (hb:l.length≤9223372036854775807):YH Tryz.prog 197 [.pd (attrs l),.pd (ints cols)] ⟨84,6,(qc (dR l cols)).map attr⟩ (B (dR l cols).isSome):=by
 refine YH.mk Tryz.func197 rfl Zd (by simp [Tryz.ntmps197]) fun w G=>?_
 refine aQk ?_
 refine R.ku 6 6 84 6 (by (simp only [go_sem])) rfl rfl ?_
 simp only [go_sem]
 refine aQk ?_
 refine R.fU (fun (k:Nat × List Attr) s=>St.lp [0,9,10,31] [(11,.pd (I k.1)),(6,.own 6)] [] [] [] [(6,⟨84,6,k.2.map attr⟩)] s) (fun (k:Nat × List Attr)=>k.1≤cols.length∧dR l (cols.take k.1)=some k.2) (fun (k:Nat × List Attr)=>cols.length - k.1) ((0,[])) (⟨by show 0≤_; omega,by simp [dR]⟩) ?_
 rintro ⟨k,out⟩ ⟨hk,hinv⟩
 have hk:k≤cols.length:=hk
 have hinv:dR l (cols.take k)=some out:=hinv
 have hol:=ug _ _ _ hinv
 rw [anc] at hol
 refine aQk ?_
 refine ⟨fun h=>?_,fun h=>?_⟩
 ·have hlt:k<cols.length:=by simpa using h
  have hsn:=yL l cols[k] _ _ hinv
  rw [← aaG hlt] at hsn
  apply aB; simp only [go_sem,aau,SV.pd.injEq,getD_map,hlt]
  repeat refine ⟨by omega,?_⟩
  refine ⟨fun h2=>?_,fun h2=>?_⟩
  ·have hno:¬ (0≤cols[k]∧cols[k].toNat<l.length):=by
    split at h2 <;> simp at * <;> omega
   have hall:dR l cols=none:=by
    have e:=aj8 k cols
    rw [drop_cons hlt] at e
    rw [← e]; exact yM l _ hno _ _
   rw [hall]
   refine aQk ?_
   refine R.ku 4 9 84 6 (by (simp only [go_sem])) rfl rfl ?_
   simp only [go_sem]
   exact R.Vk rfl rfl rfl rfl
  ·have hyes:0≤cols[k]∧cols[k].toNat<l.length:=by
    split at h2 <;> simp at * <;> omega
   have hcast:((cols[k].toNat:Nat):Int)=cols[k]:=ap6 hyes.1
   rw [arQ hyes] at hsn
   generalize cols[k].toNat=q at hcast hyes hsn
   rw [← hcast]
   have hq:=hyes.2
   apply aB; simp only [go_sem,aau,SV.pd.injEq,getD_map,hq]
   repeat refine ⟨by omega,?_⟩
   refine R.dF 1000000000 80 rfl rfl (by (simp only [go_sem])) rfl rfl rfl rfl sl28 rfl zG (by simp) (congrArg (aiA af0) zH) rfl BU (by simp; omega) (by decide) (by decide) ?_
   apply ev8; simp only [go_sem,wrapN (k:=k) (by omega)]
   refine R.fE (k+1,out++[l[q]]) ⟨by show k+1≤_; omega,hsn⟩ (hm:=by show _<_; simp; omega) (l:=by (simp only [go_sem,aei]); all_goals (and_intros <;> rfl))
 ·have hge:¬ k<cols.length:=by simpa using h
  rw [adw (by omega)] at hinv
  rw [hinv]
  refine aQk ?_
  exact R.Vk rfl rfl rfl rfl
def kY (nm:ByteArray) (kind:Int):Attr:=⟨nm,kind,[],V.zero⟩
def oU (p q:Plan):Option (List Attr × Bool):=match dR q.attrs p.cols with
 | none=>none
 | some out=>if p.attrs.length≠out.length+1∨p.agg<1∨4<p.agg then none else
  let nm:=(p.attrs.map (·.name)).getD out.length ByteArray.empty
  if p.agg=1 then some (out++[kY nm 2],decide (p.col = -1))
  else if p.col<0∨(q.attrs.length:Int)≤p.col then some (out++[kY nm 2],false)
  else if p.agg=2 then some (out++[kY nm 2],(q.attrs.map (·.kind)).getD p.col.toNat 0 == 2)
  else some (out++[kY nm ((q.attrs.map (·.kind)).getD p.col.toNat 0)],true)
def Nv (r:Option (List Attr × Bool)):List PD:=match r with | some (l,b)=>[attrs l,B b] | none=>[NIL,B false]
theorem Dl (nm:ByteArray) (kind:Int):Dc (.list 6 [.ak [S nm,I kind,NIL,I 0,I 0,S ByteArray.empty]]) (.list 6 [attr (kY nm kind)]):=
 .list 6 rfl (fun i hi=>by
  have:i=0:=by simpa using hi
  subst this
  exact ⟨_,_,rfl,rfl,.cons (.same _) (.cons (.same _) (.cons (.nil 1) (.cons (.same _) (.cons (.same _) (.cons (.same _) .nil)))))⟩)
theorem abY (p q:Plan) (tl:List bH) (hk:p.kids=[q]) (hb:q.attrs.length≤100000000) (hc:p.cols.length≤100000000):aT Tryz.prog 135 [.pd (nR p tl)] (Nv (oU p q)):=by
 refine aT.mk Tryz.func135 rfl ah3 (by simp [Tryz.ntmps135]) fun w G=>?_
 simp only [nR,hk,ads,adG,aJ q]
 apply aB; simp only [go_sem,aau,SV.pd.injEq,Int.toNat_zero,Int.toNat_one,aJ q]
 repeat refine ⟨by omega,?_⟩
 refine R.abf (by rfl) 5 (by rfl) rfl rfl rfl rfl rfl rfl rfl rfl rfl rfl rfl rfl (by (simp only [go_sem])) (by decide) (.cons (.pd _) (.cons (.pd _) .nil)) (abX q.attrs p.cols (by omega) (by omega)) ?_
 cases hp:dR q.attrs p.cols with
 | none=>
  have hr:oU p q=none:=by unfold oU; rw [hp]
  simp only [Option.isSome_none]
  rw [hr]
  refine aQl ?_
  refine R.rW ?_
  rfl
 | some out=>
  have hol:=ug _ _ _ hp
  simp only [Option.isSome_some,qc,Option.getD_some]
  by_cases c1:p.attrs.length≠out.length+1
  ·have hr:oU p q=none:=by unfold oU; rw [hp]; simp [c1]
   have e1:((p.attrs.length:Int) != ((out.length+1:Nat):Int))=true:=by simp only [bne_iff_ne,ne_eq]; omega
   rw [hr]
   apply aj; simp only [go_sem,↓reduceIte,wrapN (k:=out.length) (by omega),e1]
   refine R.rW ?_
   rfl
  have c1:p.attrs.length=out.length+1:=Classical.not_not.1 c1
  have e1:((p.attrs.length:Int) != ((out.length+1:Nat):Int))=false:=by simp only [bne_eq_false_iff_eq]; omega
  by_cases c2:p.agg<1
  ·have hr:oU p q=none:=by unfold oU; rw [hp]; simp [c2]
   have e2:decide (p.agg<1)=true:=apd c2
   rw [hr]
   apply aj; simp only [go_sem,↓reduceIte,wrapN (k:=out.length) (by omega),e1,e2]
   refine R.rW ?_
   rfl
  have e2:decide (p.agg<1)=false:=anb c2
  by_cases c3:p.agg > 4
  ·have hr:oU p q=none:=by unfold oU; rw [hp]; simp [c3]
   have e3:decide (p.agg > 4)=true:=apd c3
   rw [hr]
   apply aj; simp only [go_sem,↓reduceIte,wrapN (k:=out.length) (by omega),e1,e2,e3]
   refine R.rW ?_
   rfl
  have e3:decide (p.agg > 4)=false:=anb c3
  have IX:out.length<p.attrs.length:=by omega
  have hnm:(p.attrs.map (·.name)).getD out.length ByteArray.empty=p.attrs[out.length].name:=by simp [IX]
  have hr0:oU p q=if p.agg=1 then some (out++[kY p.attrs[out.length].name 2],decide (p.col = -1))
    else if p.col<0∨(q.attrs.length:Int)≤p.col then some (out++[kY p.attrs[out.length].name 2],false)
    else if p.agg=2 then some (out++[kY p.attrs[out.length].name 2],(q.attrs.map (·.kind)).getD p.col.toNat 0 == 2)
    else some (out++[kY p.attrs[out.length].name ((q.attrs.map (·.kind)).getD p.col.toNat 0)],true):=by
   unfold oU; rw [hp]; simp only [hnm]; rw [adt (by omega)]
  by_cases a1:p.agg=1
  ·have hr:oU p q=some (out++[kY p.attrs[out.length].name 2],decide (p.col = -1)):=by rw [hr0,adA a1]
   have f1:(p.agg == 1)=true:=by simp [a1]
   apply aj; simp only [go_sem,↓reduceIte,wrapN (k:=out.length) (by omega),e1,e2,e3,getD_map,IX,f1]
   repeat refine ⟨by omega,?_⟩
   refine R.up 100 (by (simp only [go_sem])) rfl (Dl _ _) ?_
   simp only [go_sem]
   refine R.dF (d:=attr (kY p.attrs[out.length].name 2)) 1000000000 80 rfl rfl (by (simp only [go_sem])) rfl rfl rfl rfl sl28 rfl zG (by simp) (congrArg (aiA af0) zH) rfl BU (by simp; omega) (by decide) (by decide) ?_
   refine aQk ?_
   refine R.bT 5 rfl rfl ?_
   simp only [go_sem]
   refine R.rW ?_
   rw [hr]; simp only [Nv,attrs,aei,ads,adG]; rfl
  have f1:(p.agg == 1)=false:=by simp [a1]
  rw [adt a1] at hr0
  by_cases a2:p.col<0
  ·have hr:oU p q=some (out++[kY p.attrs[out.length].name 2],false):=by rw [hr0,adA (.inl a2)]
   have f2:decide (p.col<0)=true:=apd a2
   apply aj; simp only [go_sem,↓reduceIte,wrapN (k:=out.length) (by omega),e1,e2,e3,getD_map,IX,f1,f2]
   repeat refine ⟨by omega,?_⟩
   apply aj; simp only [go_sem,↓reduceIte,wrapN (k:=out.length) (by omega),e1,e2,e3,getD_map,IX,f1,f2]
   repeat refine ⟨by omega,?_⟩
   refine R.up 100 (by (simp only [go_sem])) rfl (Dl _ _) ?_
   simp only [go_sem]
   refine R.dF (d:=attr (kY p.attrs[out.length].name 2)) 1000000000 80 rfl rfl (by (simp only [go_sem])) rfl rfl rfl rfl sl28 rfl zG (by simp) (congrArg (aiA af0) zH) rfl BU (by simp; omega) (by decide) (by decide) ?_
   refine aQk ?_
   refine R.bT 5 rfl rfl ?_
   simp only [go_sem]
   refine R.rW ?_
   rw [hr]; simp only [Nv,attrs,aei,ads,adG]; rfl
  have f2:decide (p.col<0)=false:=anb a2
  by_cases a3:p.col≥(q.attrs.length:Int)
  ·have hr:oU p q=some (out++[kY p.attrs[out.length].name 2],false):=by rw [hr0,adA (.inr a3)]
   have f3:decide (p.col≥(q.attrs.length:Int))=true:=apd a3
   apply aj; simp only [go_sem,↓reduceIte,wrapN (k:=out.length) (by omega),e1,e2,e3,getD_map,IX,f1,f2,f3]
   repeat refine ⟨by omega,?_⟩
   apply aj; simp only [go_sem,↓reduceIte,wrapN (k:=out.length) (by omega),e1,e2,e3,getD_map,IX,f1,f2,f3]
   repeat refine ⟨by omega,?_⟩
   refine R.up 100 (by (simp only [go_sem])) rfl (Dl _ _) ?_
   simp only [go_sem]
   refine R.dF (d:=attr (kY p.attrs[out.length].name 2)) 1000000000 80 rfl rfl (by (simp only [go_sem])) rfl rfl rfl rfl sl28 rfl zG (by simp) (congrArg (aiA af0) zH) rfl BU (by simp; omega) (by decide) (by decide) ?_
   refine aQk ?_
   refine R.bT 5 rfl rfl ?_
   simp only [go_sem]
   refine R.rW ?_
   rw [hr]; simp only [Nv,attrs,aei,ads,adG]; rfl
  have f3:decide (p.col≥(q.attrs.length:Int))=false:=anb a3
  rw [adt (by omega)] at hr0
  obtain ⟨c,hcc⟩:=as2 (Int.not_lt.1 a2)
  have hcl:c<q.attrs.length:=by omega
  have hkd:(q.attrs.map (·.kind)).getD p.col.toNat 0=q.attrs[c].kind:=by rw [hcc]; simp [hcl]
  rw [hkd] at hr0
  have f5:decide ((c:Int)<0)=false:=by apply anb; omega
  have f6:decide ((c:Int)≥(q.attrs.length:Int))=false:=by apply anb; omega
  by_cases a4:p.agg=2
  ·have hr:oU p q=some (out++[kY p.attrs[out.length].name 2],q.attrs[c].kind == 2):=by rw [hr0,adA a4]
   have f4:(p.agg == 2)=true:=by simp [a4]
   apply aj; simp only [go_sem,↓reduceIte,wrapN (k:=out.length) (by omega),e1,e2,e3,getD_map,IX,f1,f4,f5,f6,hcc,hcl]
   repeat refine ⟨by omega,?_⟩
   apply aj; simp only [go_sem,↓reduceIte,wrapN (k:=out.length) (by omega),e1,e2,e3,getD_map,IX,f1,f4,f5,f6,hcc,hcl]
   repeat refine ⟨by omega,?_⟩
   refine R.up 100 (by (simp only [go_sem])) rfl (Dl _ _) ?_
   simp only [go_sem]
   refine R.dF (d:=attr (kY p.attrs[out.length].name 2)) 1000000000 80 rfl rfl (by (simp only [go_sem])) rfl rfl rfl rfl sl28 rfl zG (by simp) (congrArg (aiA af0) zH) rfl BU (by simp; omega) (by decide) (by decide) ?_
   refine aQk ?_
   refine R.bT 5 rfl rfl ?_
   simp only [go_sem]
   refine R.rW ?_
   rw [hr]; simp only [Nv,attrs,aei,ads,adG]; rfl
  ·have hr:oU p q=some (out++[kY p.attrs[out.length].name q.attrs[c].kind],true):=by rw [hr0,adt a4]
   have f4:(p.agg == 2)=false:=by simp [a4]
   apply aj; simp only [go_sem,↓reduceIte,wrapN (k:=out.length) (by omega),e1,e2,e3,getD_map,IX,f1,f4,f5,f6,hcc,hcl]
   repeat refine ⟨by omega,?_⟩
   apply aj; simp only [go_sem,↓reduceIte,wrapN (k:=out.length) (by omega),e1,e2,e3,getD_map,IX,f1,f4,f5,f6,hcc,hcl]
   repeat refine ⟨by omega,?_⟩
   refine R.up 100 (by (simp only [go_sem])) rfl (Dl _ _) ?_
   simp only [go_sem]
   refine R.dF (d:=attr (kY p.attrs[out.length].name q.attrs[c].kind)) 1000000000 80 rfl rfl (by (simp only [go_sem])) rfl rfl rfl rfl sl28 rfl zG (by simp) (congrArg (aiA af0) zH) rfl BU (by simp; omega) (by decide) (by decide) ?_
   refine aQk ?_
   refine R.bT 5 rfl rfl ?_
   simp only [go_sem]
   refine R.rW ?_
   rw [hr]; simp only [Nv,attrs,aei,ads,adG]; rfl
end Go.Proofs.Z
