/- A part of the proof. -/
import Derived.Test.YtjbhhddfaohdnaaGreatDoorPU1
set_option linter.all false
set_option linter.deprecated false
open List renaming length→adF
open Option renaming map→ag6
namespace Go.Proofs.Z
open Go Go.au Go.Proofs
set_option maxRecDepth 10000
set_option maxHeartbeats 4000000
theorem afd:aG Tryz.prog 135:=fun _ _=>by kernel_rfl
def Df (r:Option (List Attr)):List Attr:=r.getD []
theorem Z4 (l:List Attr) (cols:List Int) (hc:cols.length≤1000000000) (hb:l.length≤9223372036854775807):WQ Tryz.prog 197 [.pd (attrs l),.pd (ints cols)] ⟨84,6,(Df (dO l cols)).map attr⟩ (B (dO l cols).isSome):=by
 refine WQ.mk Tryz.func197 rfl Xw (by simp [Tryz.ntmps197]) fun w G=>?_
 refine aMD ?_
 refine R.fJ 6 6 84 6 (by (simp only [go_sem])) rfl rfl ?_
 simp only [go_sem]
 refine aMD ?_
 refine R.fU (fun (k:Nat × List Attr) s=>St.lp [0,9,10,31] [(11,.pd (I k.1)),(6,.own 6)] [] [] [] [(6,⟨84,6,k.2.map attr⟩)] s) (fun (k:Nat × List Attr)=>k.1≤cols.length∧dO l (cols.take k.1)=some k.2) (fun (k:Nat × List Attr)=>cols.length - k.1) ((0,[])) (⟨by show 0≤_; omega,by simp [dO]⟩) ?_
 rintro ⟨k,out⟩ ⟨hk,hinv⟩
 have hk:k≤cols.length:=hk
 have hinv:dO l (cols.take k)=some out:=hinv
 have hol:=tu _ _ _ hinv
 rw [ako] at hol
 refine aMD ?_
 refine ⟨fun h=>?_,fun h=>?_⟩
 ·have hlt:k<cols.length:=by simpa using h
  have hsn:=DJ l cols[k] _ _ hinv
  rw [← abq hlt] at hsn
  apply aC; simp only [go_sem,getD_map,hlt]
  repeat refine ⟨by omega,?_⟩
  refine ⟨fun h2=>?_,fun h2=>?_⟩
  ·have hno:¬ (0≤cols[k]∧cols[k].toNat<l.length):=by
    split at h2 <;> simp at * <;> omega
   have hall:dO l cols=none:=by
    have e:=akz k cols
    rw [drop_cons hlt] at e
    rw [← e]; exact DK l _ hno _ _
   rw [hall]
   refine aMD ?_
   refine R.fJ 4 9 84 6 (by (simp only [go_sem])) rfl rfl ?_
   simp only [go_sem]
   exact R.RX rfl rfl rfl rfl
  ·have hyes:0≤cols[k]∧cols[k].toNat<l.length:=by
    split at h2 <;> simp at * <;> omega
   have hcast:((cols[k].toNat:Nat):Int)=cols[k]:=an7 hyes.1
   rw [an5 hyes] at hsn
   generalize cols[k].toNat=q at hcast hyes hsn
   rw [← hcast]
   have hq:=hyes.2
   apply aC; simp only [go_sem,getD_map,hq]
   repeat refine ⟨by omega,?_⟩
   refine R.aY 1000000000 80 rfl rfl (by (simp only [go_sem])) rfl rfl rfl rfl sl28 rfl su (by simp) (congrArg (ag6 adF) sD) rfl uK (by simp; omega) (by decide) (by decide) ?_
   apply ev8; simp only [go_sem,wrapN (k:=k) (by omega)]
   refine R.fE (k+1,out++[l[q]]) ⟨by show k+1≤_; omega,hsn⟩ (hm:=by show _<_; simp; omega) (l:=by (simp only [go_sem,acC]); all_goals (and_intros <;> rfl))
 ·have hge:¬ k<cols.length:=by simpa using h
  rw [abT (by omega)] at hinv
  rw [hinv]
  refine aMD ?_
  exact R.RX rfl rfl rfl rfl
def iI (nm:ByteArray) (kind:Int):Attr:=⟨nm,kind,[],V.zero⟩
def lU (p q:Plan):Option (List Attr × Bool):=match dO q.attrs p.cols with
 | none=>none
 | some out=>if p.attrs.length≠out.length+1∨p.agg<1∨4<p.agg then none else
  let nm:=(p.attrs.map (·.name)).getD out.length ByteArray.empty
  if p.agg=1 then some (out++[iI nm 2],decide (p.col = -1))
  else if p.col<0∨(q.attrs.length:Int)≤p.col then some (out++[iI nm 2],false)
  else if p.agg=2 then some (out++[iI nm 2],(q.attrs.map (·.kind)).getD p.col.toNat 0 == 2)
  else some (out++[iI nm ((q.attrs.map (·.kind)).getD p.col.toNat 0)],true)
def KG (r:Option (List Attr × Bool)):List PD:=match r with | some (l,b)=>[attrs l,B b] | none=>[NIL,B false]
theorem BN (nm:ByteArray) (kind:Int):BI (.list 6 [.ak [S nm,I kind,NIL,I 0,I 0,S ByteArray.empty]]) (.list 6 [attr (iI nm kind)]):=
 .list 6 rfl (fun i hi=>by
  have:i=0:=by simpa using hi
  subst this
  exact ⟨_,_,rfl,rfl,.cons (.same _) (.cons (.same _) (.cons (.nil 1) (.cons (.same _) (.cons (.same _) (.cons (.same _) .nil)))))⟩)
theorem Z5 (p q:Plan) (tl:List bJ) (hk:p.kids=[q]) (hb:q.attrs.length≤100000000) (hc:p.cols.length≤100000000):aQ Tryz.prog 135 [.pd (nM p tl)] (KG (lU p q)):=by
 refine aQ.mk Tryz.func135 rfl afd (by simp [Tryz.ntmps135]) fun w G=>?_
 simp only [nM,hk]
 apply aC; simp only [go_sem,Int.toNat_zero,aF q]
 repeat refine ⟨by omega,?_⟩
 refine R.Zg (by rfl) 5 (by rfl) rfl rfl rfl rfl rfl rfl rfl rfl rfl rfl rfl rfl (by (simp only [go_sem])) (by decide) (.cons (.pd _) (.cons (.pd _) .nil)) (Z4 q.attrs p.cols (by omega) (by omega)) ?_
 cases hp:dO q.attrs p.cols with
 | none=>
  have hr:lU p q=none:=by unfold lU; rw [hp]
  simp only [Option.isSome_none]
  rw [hr]
  refine aME ?_
  refine R.rW ?_
  rfl
 | some out=>
  have hol:=tu _ _ _ hp
  simp only [Option.isSome_some,Df,Option.getD_some]
  by_cases c1:p.attrs.length≠out.length+1
  ·have hr:lU p q=none:=by unfold lU; rw [hp]; simp [c1]
   have e1:((p.attrs.length:Int) != ((out.length+1:Nat):Int))=true:=by simp only [bne_iff_ne,ne_eq]; omega
   rw [hr]
   apply ah; simp only [go_sem,↓reduceIte,wrapN (k:=out.length) (by omega),e1]
   refine R.rW ?_
   rfl
  have c1:p.attrs.length=out.length+1:=Classical.not_not.1 c1
  have e1:((p.attrs.length:Int) != ((out.length+1:Nat):Int))=false:=by simp only [bne_eq_false_iff_eq]; omega
  by_cases c2:p.agg<1
  ·have hr:lU p q=none:=by unfold lU; rw [hp]; simp [c2]
   have e2:decide (p.agg<1)=true:=abE c2
   rw [hr]
   apply ah; simp only [go_sem,↓reduceIte,wrapN (k:=out.length) (by omega),e1,e2]
   refine R.rW ?_
   rfl
  have e2:decide (p.agg<1)=false:=abz c2
  by_cases c3:p.agg > 4
  ·have hr:lU p q=none:=by unfold lU; rw [hp]; simp [c3]
   have e3:decide (p.agg > 4)=true:=abE c3
   rw [hr]
   apply ah; simp only [go_sem,↓reduceIte,wrapN (k:=out.length) (by omega),e1,e2,e3]
   refine R.rW ?_
   rfl
  have e3:decide (p.agg > 4)=false:=abz c3
  have SA:out.length<p.attrs.length:=by omega
  have hnm:(p.attrs.map (·.name)).getD out.length ByteArray.empty=p.attrs[out.length].name:=by simp [SA]
  have hr0:lU p q=if p.agg=1 then some (out++[iI p.attrs[out.length].name 2],decide (p.col = -1))
    else if p.col<0∨(q.attrs.length:Int)≤p.col then some (out++[iI p.attrs[out.length].name 2],false)
    else if p.agg=2 then some (out++[iI p.attrs[out.length].name 2],(q.attrs.map (·.kind)).getD p.col.toNat 0 == 2)
    else some (out++[iI p.attrs[out.length].name ((q.attrs.map (·.kind)).getD p.col.toNat 0)],true):=by
   unfold lU; rw [hp]; simp only [hnm]; rw [abQ (by omega)]
  by_cases a1:p.agg=1
  ·have hr:lU p q=some (out++[iI p.attrs[out.length].name 2],decide (p.col = -1)):=by rw [hr0,ab8 a1]
   have f1:(p.agg == 1)=true:=by simp [a1]
   apply ah; simp only [go_sem,↓reduceIte,wrapN (k:=out.length) (by omega),e1,e2,e3,getD_map,SA,f1]
   repeat refine ⟨by omega,?_⟩
   refine R.up 100 (by (simp only [go_sem])) rfl (BN _ _) ?_
   simp only [go_sem]
   refine R.aY (d:=attr (iI p.attrs[out.length].name 2)) 1000000000 80 rfl rfl (by (simp only [go_sem])) rfl rfl rfl rfl sl28 rfl su (by simp) (congrArg (ag6 adF) sD) rfl uK (by simp; omega) (by decide) (by decide) ?_
   refine aMD ?_
   refine R.bP 5 rfl rfl ?_
   simp only [go_sem]
   refine R.rW ?_
   rw [hr]; simp only [KG,attrs,acC,acn,adR]; rfl
  have f1:(p.agg == 1)=false:=by simp [a1]
  rw [abQ a1] at hr0
  by_cases a2:p.col<0
  ·have hr:lU p q=some (out++[iI p.attrs[out.length].name 2],false):=by rw [hr0,ab8 (.inl a2)]
   have f2:decide (p.col<0)=true:=abE a2
   apply ah; simp only [go_sem,↓reduceIte,wrapN (k:=out.length) (by omega),e1,e2,e3,getD_map,SA,f1,f2]
   repeat refine ⟨by omega,?_⟩
   refine aME ?_
   repeat refine ⟨by omega,?_⟩
   refine R.up 100 (by (simp only [go_sem])) rfl (BN _ _) ?_
   simp only [go_sem]
   refine R.aY (d:=attr (iI p.attrs[out.length].name 2)) 1000000000 80 rfl rfl (by (simp only [go_sem])) rfl rfl rfl rfl sl28 rfl su (by simp) (congrArg (ag6 adF) sD) rfl uK (by simp; omega) (by decide) (by decide) ?_
   refine aMD ?_
   refine R.bP 5 rfl rfl ?_
   simp only [go_sem]
   refine R.rW ?_
   rw [hr]; simp only [KG,attrs,acC,acn,adR]; rfl
  have f2:decide (p.col<0)=false:=abz a2
  by_cases a3:p.col≥(q.attrs.length:Int)
  ·have hr:lU p q=some (out++[iI p.attrs[out.length].name 2],false):=by rw [hr0,ab8 (.inr a3)]
   have f3:decide (p.col≥(q.attrs.length:Int))=true:=abE a3
   apply ah; simp only [go_sem,↓reduceIte,wrapN (k:=out.length) (by omega),e1,e2,e3,getD_map,SA,f1,f2,f3]
   repeat refine ⟨by omega,?_⟩
   refine aME ?_
   repeat refine ⟨by omega,?_⟩
   refine R.up 100 (by (simp only [go_sem])) rfl (BN _ _) ?_
   simp only [go_sem]
   refine R.aY (d:=attr (iI p.attrs[out.length].name 2)) 1000000000 80 rfl rfl (by (simp only [go_sem])) rfl rfl rfl rfl sl28 rfl su (by simp) (congrArg (ag6 adF) sD) rfl uK (by simp; omega) (by decide) (by decide) ?_
   refine aMD ?_
   refine R.bP 5 rfl rfl ?_
   simp only [go_sem]
   refine R.rW ?_
   rw [hr]; simp only [KG,attrs,acC,acn,adR]; rfl
  have f3:decide (p.col≥(q.attrs.length:Int))=false:=abz a3
  rw [abQ (by omega)] at hr0
  obtain ⟨c,hcc⟩:=ana (Int.not_lt.1 a2)
  have hcl:c<q.attrs.length:=by omega
  have hkd:(q.attrs.map (·.kind)).getD p.col.toNat 0=q.attrs[c].kind:=by rw [hcc]; simp [hcl]
  rw [hkd] at hr0
  have f5:decide ((c:Int)<0)=false:=by apply abz; omega
  have f6:decide ((c:Int)≥(q.attrs.length:Int))=false:=by apply abz; omega
  by_cases a4:p.agg=2
  ·have hr:lU p q=some (out++[iI p.attrs[out.length].name 2],q.attrs[c].kind == 2):=by rw [hr0,ab8 a4]
   have f4:(p.agg == 2)=true:=by simp [a4]
   apply ah; simp only [go_sem,↓reduceIte,wrapN (k:=out.length) (by omega),e1,e2,e3,getD_map,SA,f1,f5,f6,hcc]
   repeat refine ⟨by omega,?_⟩
   apply ah; simp only [go_sem,↓reduceIte,getD_map,f4,hcl]
   repeat refine ⟨by omega,?_⟩
   refine R.up 100 (by (simp only [go_sem])) rfl (BN _ _) ?_
   simp only [go_sem]
   refine R.aY (d:=attr (iI p.attrs[out.length].name 2)) 1000000000 80 rfl rfl (by (simp only [go_sem])) rfl rfl rfl rfl sl28 rfl su (by simp) (congrArg (ag6 adF) sD) rfl uK (by simp; omega) (by decide) (by decide) ?_
   refine aMD ?_
   refine R.bP 5 rfl rfl ?_
   simp only [go_sem]
   refine R.rW ?_
   rw [hr]; simp only [KG,attrs,acC,acn,adR]; rfl
  ·have hr:lU p q=some (out++[iI p.attrs[out.length].name q.attrs[c].kind],true):=by rw [hr0,abQ a4]
   have f4:(p.agg == 2)=false:=by simp [a4]
   apply ah; simp only [go_sem,↓reduceIte,wrapN (k:=out.length) (by omega),e1,e2,e3,getD_map,SA,f1,f5,f6,hcc]
   repeat refine ⟨by omega,?_⟩
   apply ah; simp only [go_sem,↓reduceIte,getD_map,f4,hcl]
   repeat refine ⟨by omega,?_⟩
   refine R.up 100 (by (simp only [go_sem])) rfl (BN _ _) ?_
   simp only [go_sem]
   refine R.aY (d:=attr (iI p.attrs[out.length].name q.attrs[c].kind)) 1000000000 80 rfl rfl (by (simp only [go_sem])) rfl rfl rfl rfl sl28 rfl su (by simp) (congrArg (ag6 adF) sD) rfl uK (by simp; omega) (by decide) (by decide) ?_
   refine aMD ?_
   refine R.bP 5 rfl rfl ?_
   simp only [go_sem]
   refine R.rW ?_
   rw [hr]; simp only [KG,attrs,acC,acn,adR]; rfl
end Go.Proofs.Z
