/- A part of the proof. -/
import Derived.Test.YtjbhhddfaohdnaaGreatDoorPQj
set_option linter.all false
set_option linter.deprecated false
open Go.Proofs.Tryz renaming prog→abo,func48→apI,ntmps48→aoT
open Int renaming toNat_zero→afM,toNat_one→amm,reduceEq→akD
open List renaming length→adF,length_cons→agX,length_nil→aj7,getElem_cons_zero→akv,getElem_cons_succ→amx,length_singleton→apR
open Option renaming map→ag6,getD_some→akt
section
namespace Go.Proofs.Z
open Go Go.au Go.Proofs
set_option maxRecDepth 10000
set_option maxHeartbeats 8000000
set_option maxHeartbeats 4000000
theorem YS (p:Plan) (facts:List cZ) (ks:List (List Ans)) (hk:p.kind=2) (hkl:p.kids.length≤2) (hl:ks.length=p.kids.length) (ih:∀ i (h:i<p.kids.length) (h2:i<ks.length),aQ abo 48 [.pd (plan p.kids[i]),.pd (dh facts)] [bT ks[i],B true]) (a:List Ans) (hks:ks=[a]) (ha:a.length≤1000) (hs:∀ x∈a,∀ t∈p.tests,nX x.row t.left∧nX x.row t.right) (hL:FW (a.filter fun x=>!ru p x.row)):aQ abo 48 [.pd (plan p),.pd (dh facts)] (zM (some (a.filter fun x=>!ru p x.row))):=by
 have q1:(p.kind == 1)=false:=by simp [hk]
 have q2:(p.kind == 2)=true:=by simp [hk]
 rw [aF p]
 refine aQ.mk apI rfl Ap (by simp [aoT]) fun w G=>?_
 refine aMD ?_
 refine R.fJ 6 6 33 1 (by (simp only [go_sem])) rfl rfl ?_
 simp only [go_sem]
 apply ah; simp only [go_sem]
 refine R.fU (fun (i:Nat) s=>St.lp [1,2] [(7,.pd (I i)),(6,.own 6)] [2,19] [] [] [(6,⟨33,1,(ks.take i).map bT⟩)] s) (fun (i:Nat)=>i≤p.kids.length) (fun (i:Nat)=>p.kids.length - i) (0) (by omega) ?_
 rintro i hi
 by_cases aZ:i<p.kids.length
 ·have e1:decide ((i:Int)<(p.kids.length:Int))=true:=by simp; omega
  have hlk:i<ks.length:=by omega
  have hsn:(ks.take (i+1)).map bT=(ks.take i).map bT++[bT ks[i]]:=by rw [abq hlk,acC]; rfl
  apply ah; simp only [go_sem,↓reduceIte,e1,getD_map,aZ,kY,mZ]
  repeat refine ⟨by omega,?_⟩
  refine R.kW (ih i aZ hlk) rfl rfl (.cons (.pd _) (.cons (.pd _) (.nil))) ?_
  refine aME ?_
  refine R.aY 1000000000000 24 rfl rfl (by (simp only [go_sem])) rfl rfl rfl rfl Du rfl zh (by simp) (congrArg (ag6 adF) Dq) rfl Dp (by simp; omega) (by decide) (by decide) ?_
  apply ah; simp only [go_sem,↓reduceIte,wrapN (k:=i) (by omega)]
  refine R.fE (i+1) (by omega) (l:=by (simp only [go_sem,hsn]); all_goals (and_intros <;> rfl))
 have e0:decide ((i:Int)<(p.kids.length:Int))=false:=by simp; omega
 have hke:ks.take i=ks:=abT (by omega)
 clear aZ
 simp only [go_sem,hke]
 subst hks
 refine R.bP 6 rfl rfl ?_
 simp only [go_sem]
 apply ah; simp only [go_sem,↓reduceIte,e0,q1,q2]
 repeat refine ⟨by omega,?_⟩
 refine R.fJ 10 10 39 2 (by (simp only [go_sem])) rfl rfl ?_
 simp only [go_sem]
 refine R.fU (fun (i:Nat) s=>St.lp [2,4,5,6,46] [(12,.pd (I i)),(10,.own 10)] [2,19] [] [] [(10,⟨39,2,((a.take i).filter fun x=>!ru p x.row).map ans⟩)] s) (fun (i:Nat)=>i≤a.length) (fun (i:Nat)=>a.length - i) (0) (by omega) ?_
 rintro i hi
 by_cases aZ:i<a.length
 ·have e1:decide ((i:Int)<(a.length:Int))=true:=by simp; omega
  have hside:=hs a[i] (ab5 aZ)
  have hsn:=Q7 (fun x:Ans=>!ru p x.row) aZ
  have hTl:((a.take i).filter fun x=>!ru p x.row).length≤1000:=aj2 (anw ..) (by rw [ako]; omega)
  generalize ((a.take i).filter fun x=>!ru p x.row)=T at hsn hTl
  apply ah; simp only [go_sem,↓reduceIte,e1,afM]
  repeat refine ⟨by omega,?_⟩
  refine R.aO 9 80 mixed (by decide +kernel) ?_; simp only [go_sem,afM,getD_map,aZ]
  repeat refine ⟨by omega,?_⟩
  refine R.kC (Vo p.tests a[i].row hside) rfl rfl (.cons (.pd _) (.cons (.pd _) (.nil))) ?_
  cases hb:ru p a[i].row with
  | true=>
   have hb':(!p.tests.any fun t=>!DU a[i].row t)=false:=by unfold ru at hb; rw [hb]; rfl
   rw [hb,abQ (by simp),akw] at hsn
   apply ah; simp only [go_sem,↓reduceIte,hb',wrapN (k:=i) (by omega)]
   refine R.fE (i+1) (by omega) (l:=by (simp only [go_sem,hsn]); all_goals (and_intros <;> rfl))
  | false=>
   have hb':(!p.tests.any fun t=>!DU a[i].row t)=true:=by unfold ru at hb; rw [hb]; rfl
   rw [hb,ab8 (by rfl:(!false)=true)] at hsn
   apply ah; simp only [go_sem,↓reduceIte,hb',afM,getD_map,aZ]
   repeat refine ⟨by omega,?_⟩
   refine R.aY 1000000000000 48 rfl rfl (by (simp only [go_sem])) rfl rfl rfl rfl zi rfl xO (by simp) (congrArg (ag6 adF) zl) rfl zk (by simp; omega) (by decide) (by decide) ?_
   apply ah; simp only [go_sem,↓reduceIte,wrapN (k:=i) (by omega)]
   refine R.fE (i+1) (by omega) (l:=by (simp only [go_sem,hsn,acC]); all_goals (and_intros <;> rfl))
 ·have e1:decide ((i:Int)<(a.length:Int))=false:=by simp; omega
  have hke2:a.take i=a:=abT (by omega)
  apply ah; simp only [go_sem,↓reduceIte,e1,hke2,afM]
  repeat refine ⟨by omega,?_⟩
  refine R.bP 10 rfl rfl ?_
  simp only [go_sem]
  refine R.kW (oO _ hL.1 hL.2.1 hL.2.2.1 hL.2.2.2) rfl rfl (.cons (.pd _) (.nil)) ?_
  refine aME ?_
  refine R.kC (sN _) rfl rfl (.cons (.pd _) (.nil)) ?_
  refine aME ?_
  refine R.rW ?_
  rfl
theorem Vy (p:Plan) (facts:List cZ) (ks:List (List Ans)) (hk:p.kind=3) (hkl:p.kids.length≤2) (hl:ks.length=p.kids.length) (ih:∀ i (h:i<p.kids.length) (h2:i<ks.length),aQ abo 48 [.pd (plan p.kids[i]),.pd (dh facts)] [bT ks[i],B true]) (a:List Ans) (hks:ks=[a]) (ha:a.length≤1000) (hc:p.cols.length≤100000000) (hs:∀ x∈a,∀ c∈p.cols,0≤c∧c.toNat<x.row.length) (hL:FW (a.map (Aq p))):aQ abo 48 [.pd (plan p),.pd (dh facts)] (zM (some (a.map (Aq p)))):=by
 have q1:(p.kind == 1)=false:=by simp [hk]
 have q2:(p.kind == 2)=false:=by simp [hk]
 have q3:(p.kind == 3)=true:=by simp [hk]
 rw [aF p]
 refine aQ.mk apI rfl Ap (by simp [aoT]) fun w G=>?_
 refine aMD ?_
 refine R.fJ 6 6 33 1 (by (simp only [go_sem])) rfl rfl ?_
 simp only [go_sem]
 apply ah; simp only [go_sem]
 refine R.fU (fun (i:Nat) s=>St.lp [1,2] [(7,.pd (I i)),(6,.own 6)] [2,19] [] [] [(6,⟨33,1,(ks.take i).map bT⟩)] s) (fun (i:Nat)=>i≤p.kids.length) (fun (i:Nat)=>p.kids.length - i) (0) (by omega) ?_
 rintro i hi
 by_cases aZ:i<p.kids.length
 ·have e1:decide ((i:Int)<(p.kids.length:Int))=true:=by simp; omega
  have hlk:i<ks.length:=by omega
  have hsn:(ks.take (i+1)).map bT=(ks.take i).map bT++[bT ks[i]]:=by rw [abq hlk,acC]; rfl
  apply ah; simp only [go_sem,↓reduceIte,e1,getD_map,aZ,kY,mZ]
  repeat refine ⟨by omega,?_⟩
  refine R.kW (ih i aZ hlk) rfl rfl (.cons (.pd _) (.cons (.pd _) (.nil))) ?_
  refine aME ?_
  refine R.aY 1000000000000 24 rfl rfl (by (simp only [go_sem])) rfl rfl rfl rfl Du rfl zh (by simp) (congrArg (ag6 adF) Dq) rfl Dp (by simp; omega) (by decide) (by decide) ?_
  apply ah; simp only [go_sem,↓reduceIte,wrapN (k:=i) (by omega)]
  refine R.fE (i+1) (by omega) (l:=by (simp only [go_sem,hsn]); all_goals (and_intros <;> rfl))
 have e0:decide ((i:Int)<(p.kids.length:Int))=false:=by simp; omega
 have hke:ks.take i=ks:=abT (by omega)
 clear aZ
 simp only [go_sem,hke]
 subst hks
 refine R.bP 6 rfl rfl ?_
 simp only [go_sem]
 apply ah; simp only [go_sem,↓reduceIte,e0,q1,q2,q3]
 repeat refine ⟨by omega,?_⟩
 refine R.fJ 10 10 39 2 (by (simp only [go_sem])) rfl rfl ?_
 simp only [go_sem]
 refine R.fU (fun (i:Nat) s=>St.lp [2,4,5,6,46] [(13,.pd (I i)),(10,.own 10)] [2,19] [] [] [(10,⟨39,2,((a.take i).map (Aq p)).map ans⟩)] s) (fun (i:Nat)=>i≤a.length) (fun (i:Nat)=>a.length - i) (0) (by omega) ?_
 rintro i hi
 by_cases aZ:i<a.length
 ·have e1:decide ((i:Int)<(a.length:Int))=true:=by simp; omega
  have hcols:=hs a[i] (ab5 aZ)
  have hsn:((a.take (i+1)).map (Aq p)).map ans=((a.take i).map (Aq p)).map ans++[ans (Aq p a[i])]:=by rw [abq aZ,acC,acC]; rfl
  apply ah; simp only [go_sem,↓reduceIte,e1,afM]
  repeat refine ⟨by omega,?_⟩
  refine R.aO 20 80 mixed (by decide +kernel) ?_; simp only [go_sem,afM,getD_map,aZ]
  repeat refine ⟨by omega,?_⟩
  refine RY.kW (Q5 a[i].row p.cols (by omega) hcols) rfl rfl (.cons (.pd _) (.cons (.pd _) (.nil))) ?_
  (refine aH 80 _ _ ?_; simp only [go_sem,afM,getD_map,aZ])
  repeat refine ⟨by omega,?_⟩
  refine R.aY 1000000000000 48 rfl rfl (by (simp only [go_sem])) rfl rfl rfl rfl zi rfl xO (by simp) (congrArg (ag6 adF) zl) rfl zk (by simp; omega) (by decide) (by decide) ?_
  apply ah; simp only [go_sem,↓reduceIte,wrapN (k:=i) (by omega)]
  refine R.fE (i+1) (by omega) (l:=by (simp only [go_sem,hsn]); all_goals (and_intros <;> rfl))
 ·have e1:decide ((i:Int)<(a.length:Int))=false:=by simp; omega
  have hke2:a.take i=a:=abT (by omega)
  apply ah; simp only [go_sem,↓reduceIte,e1,hke2,afM]
  repeat refine ⟨by omega,?_⟩
  refine R.bP 10 rfl rfl ?_
  simp only [go_sem]
  refine R.kW (oO _ hL.1 hL.2.1 hL.2.2.1 hL.2.2.2) rfl rfl (.cons (.pd _) (.nil)) ?_
  refine aME ?_
  refine R.kC (sN _) rfl rfl (.cons (.pd _) (.nil)) ?_
  refine aME ?_
  refine R.rW ?_
  rfl
theorem YT (p:Plan) (facts:List cZ) (ks:List (List Ans)) (hk:p.kind=7) (hkl:p.kids.length≤2) (hl:ks.length=p.kids.length) (ih:∀ i (h:i<p.kids.length) (h2:i<ks.length),aQ abo 48 [.pd (plan p.kids[i]),.pd (dh facts)] [bT ks[i],B true]) (a:List Ans) (hks:ks=[a]) (hL:FW a):aQ abo 48 [.pd (plan p),.pd (dh facts)] (zM (some a)):=by
 have q1:(p.kind == 1)=false:=by simp [hk]
 have q2:(p.kind == 2)=false:=by simp [hk]
 have q3:(p.kind == 3)=false:=by simp [hk]
 have q4:(p.kind == 4)=false:=by simp [hk]
 have q5:(p.kind == 5)=false:=by simp [hk]
 have q6:(p.kind == 6)=false:=by simp [hk]
 rw [aF p]
 refine aQ.mk apI rfl Ap (by simp [aoT]) fun w G=>?_
 refine aMD ?_
 refine R.fJ 6 6 33 1 (by (simp only [go_sem])) rfl rfl ?_
 simp only [go_sem]
 apply ah; simp only [go_sem]
 refine R.fU (fun (i:Nat) s=>St.lp [1,2] [(7,.pd (I i)),(6,.own 6)] [2,19] [] [] [(6,⟨33,1,(ks.take i).map bT⟩)] s) (fun (i:Nat)=>i≤p.kids.length) (fun (i:Nat)=>p.kids.length - i) (0) (by omega) ?_
 rintro i hi
 by_cases aZ:i<p.kids.length
 ·have e1:decide ((i:Int)<(p.kids.length:Int))=true:=by simp; omega
  have hlk:i<ks.length:=by omega
  have hsn:(ks.take (i+1)).map bT=(ks.take i).map bT++[bT ks[i]]:=by rw [abq hlk,acC]; rfl
  apply ah; simp only [go_sem,↓reduceIte,e1,getD_map,aZ,kY,mZ]
  repeat refine ⟨by omega,?_⟩
  refine R.kW (ih i aZ hlk) rfl rfl (.cons (.pd _) (.cons (.pd _) (.nil))) ?_
  refine aME ?_
  refine R.aY 1000000000000 24 rfl rfl (by (simp only [go_sem])) rfl rfl rfl rfl Du rfl zh (by simp) (congrArg (ag6 adF) Dq) rfl Dp (by simp; omega) (by decide) (by decide) ?_
  apply ah; simp only [go_sem,↓reduceIte,wrapN (k:=i) (by omega)]
  refine R.fE (i+1) (by omega) (l:=by (simp only [go_sem,hsn]); all_goals (and_intros <;> rfl))
 have e0:decide ((i:Int)<(p.kids.length:Int))=false:=by simp; omega
 have hke:ks.take i=ks:=abT (by omega)
 clear aZ
 simp only [go_sem,hke]
 subst hks
 refine R.bP 6 rfl rfl ?_
 simp only [go_sem]
 apply ah; simp only [go_sem,↓reduceIte,e0,afM,q1,q2,q3,q4,q5,q6]
 repeat refine ⟨by omega,?_⟩
 refine R.kW (oO _ hL.1 hL.2.1 hL.2.2.1 hL.2.2.2) rfl rfl (.cons (.pd _) (.nil)) ?_
 refine aME ?_
 refine R.kC (sN _) rfl rfl (.cons (.pd _) (.nil)) ?_
 refine aME ?_
 refine R.rW ?_
 rfl
theorem Vz (p:Plan) (facts:List cZ) (ks:List (List Ans)) (hk:p.kind=4) (hkl:p.kids.length≤2) (hl:ks.length=p.kids.length) (ih:∀ i (h:i<p.kids.length) (h2:i<ks.length),aQ abo 48 [.pd (plan p.kids[i]),.pd (dh facts)] [bT ks[i],B true]) (a b:List Ans) (hks:ks=[a,b]) (k0 k1:Plan) (hkk:p.kids=[k0,k1]) (ha:a.length≤1000) (hb:b.length≤1000) (hla:∀ x∈a,x.row.length=k0.attrs.length) (hlb:∀ x∈b,x.row.length=k1.attrs.length) (hal:k0.attrs.length≤100000000) (hbl:k1.attrs.length≤100000000) (jd:∀ x∈a,x.ways.length≤400∧∀ w∈x.ways,okW w) (hwb:∀ x∈b,x.ways.length≤400∧∀ w∈x.ways,okW w) (hL:FW (a.flatMap (iq k0.attrs k1.attrs b))):aQ abo 48 [.pd (plan p),.pd (dh facts)] (zM (some (a.flatMap (iq k0.attrs k1.attrs b)))):=by
 have q1:(p.kind == 1)=false:=by simp [hk]
 have q2:(p.kind == 2)=false:=by simp [hk]
 have q3:(p.kind == 3)=false:=by simp [hk]
 have q4:(p.kind == 4)=true:=by simp [hk]
 rw [aF p]
 refine aQ.mk apI rfl Ap (by simp [aoT]) fun w G=>?_
 refine aMD ?_
 refine R.fJ 6 6 33 1 (by (simp only [go_sem])) rfl rfl ?_
 simp only [go_sem]
 apply ah; simp only [go_sem]
 refine R.fU (fun (i:Nat) s=>St.lp [1,2] [(7,.pd (I i)),(6,.own 6)] [2,19] [] [] [(6,⟨33,1,(ks.take i).map bT⟩)] s) (fun (i:Nat)=>i≤p.kids.length) (fun (i:Nat)=>p.kids.length - i) (0) (by omega) ?_
 rintro i hi
 by_cases aZ:i<p.kids.length
 ·have e1:decide ((i:Int)<(p.kids.length:Int))=true:=by simp; omega
  have hlk:i<ks.length:=by omega
  have hsn:(ks.take (i+1)).map bT=(ks.take i).map bT++[bT ks[i]]:=by rw [abq hlk,acC]; rfl
  apply ah; simp only [go_sem,↓reduceIte,e1,getD_map,aZ,kY,mZ]
  repeat refine ⟨by omega,?_⟩
  refine R.kW (ih i aZ hlk) rfl rfl (.cons (.pd _) (.cons (.pd _) (.nil))) ?_
  refine aME ?_
  refine R.aY 1000000000000 24 rfl rfl (by (simp only [go_sem])) rfl rfl rfl rfl Du rfl zh (by simp) (congrArg (ag6 adF) Dq) rfl Dp (by simp; omega) (by decide) (by decide) ?_
  apply ah; simp only [go_sem,↓reduceIte,wrapN (k:=i) (by omega)]
  refine R.fE (i+1) (by omega) (l:=by (simp only [go_sem,hsn]); all_goals (and_intros <;> rfl))
 have e0:decide ((i:Int)<(p.kids.length:Int))=false:=by simp; omega
 have hke:ks.take i=ks:=abT (by omega)
 clear aZ
 simp only [go_sem,hke]
 subst hks
 refine R.bP 6 rfl rfl ?_
 simp only [go_sem]
 apply ah; simp only [go_sem,↓reduceIte,e0,q1,q2,q3,q4]
 repeat refine ⟨by omega,?_⟩
 refine R.fJ 10 10 39 2 (by (simp only [go_sem])) rfl rfl ?_
 simp only [go_sem]
 have hp0:(p.kids.map plan).getD 0 (.ak [])=plan k0:=by rw [hkk]; rfl
 have hp1:(p.kids.map plan).getD 1 (.ak [])=plan k1:=by rw [hkk]; rfl
 have hk2:p.kids.length=2:=by rw [hkk]; rfl
 obtain ⟨la,hLA⟩:∃ la,k0.attrs=la:=⟨_,rfl⟩
 obtain ⟨lb,hLB⟩:∃ lb,k1.attrs=lb:=⟨_,rfl⟩
 rw [hLA] at hla hal hL ⊢
 rw [hLB] at hlb hbl hL ⊢
 refine R.fU (fun (i:Nat) s=>St.lp [2,4,5,6,46] [(14,.pd (I i)),(10,.own 10)] [2,19] [] [] [(10,⟨39,2,((a.take i).flatMap (iq la lb b)).map ans⟩)] s) (fun (i:Nat)=>i≤a.length) (fun (i:Nat)=>a.length - i) (0) (by omega) ?_
 rintro i hi
 by_cases aZ:i<a.length
 ·have e1:decide ((i:Int)<(a.length:Int))=true:=by simp; omega
  have hsi:=FX (iq la lb b) aZ
  have hTl:((a.take i).flatMap (iq la lb b)).length≤1000000:=Nr la lb (by rw [ako]; omega) hb
  have hxl:=hla a[i] (ab5 aZ)
  obtain ⟨wa1,wa2⟩:=jd a[i] (ab5 aZ)
  generalize (a.take i).flatMap (iq la lb b)=T at hsi hTl
  apply ah; simp only [go_sem,↓reduceIte,e1,afM]
  repeat refine ⟨by omega,?_⟩
  refine R.fU (fun (j:Nat) s=>St.lp [2,4,5,6,14,46] [(15,.pd (I j)),(10,.own 10)] [2,19] [] [] [(10,⟨39,2,(T++iq la lb (b.take j) a[i]).map ans⟩)] s) (fun (j:Nat)=>j≤b.length) (fun (j:Nat)=>b.length - j) (0) (by omega) ?_ (by (simp only [go_sem,List.take_zero,iq,apt,akw]); all_goals (and_intros <;> rfl))
  rintro j hj
  by_cases hlj:j<b.length
  ·have f1:decide ((j:Int)<(b.length:Int))=true:=by simp; omega
   have hsj:=Vu la lb a[i] hlj
   have hUl:(T++iq la lb (b.take j) a[i]).length≤1001000:=by
    have:=J9 la lb (b.take j) a[i]
    rw [agU]
    rw [ako] at this; omega
   have hyl:=hlb b[j] (ab5 hlj)
   obtain ⟨wb1,wb2⟩:=hwb b[j] (ab5 hlj)
   have hsn:T++iq la lb (b.take (j+1)) a[i]=(T++iq la lb (b.take j) a[i])++yG la lb a[i] b[j]:=by rw [hsj,akr]
   generalize T++iq la lb (b.take j) a[i]=U at hsn hUl
   apply ah; simp only [go_sem,↓reduceIte,f1,amm]
   repeat refine ⟨by omega,?_⟩
   refine R.aO 29 80 mixed (by decide +kernel) ?_; simp only [go_sem,afM,amm,getD_map,hp0,hp1,aF k0,aF k1,hLA,hLB,aZ,hlj]
   repeat refine ⟨by omega,?_⟩
   refine RY.kW (YJ la lb a[i].row b[j].row hxl hyl (by omega) (by omega)) rfl rfl (.cons (.pd _) (.cons (.pd _) (.cons (.pd _) (.cons (.pd _) (.nil))))) ?_
   cases hr:uX la lb a[i].row b[j].row with
   | none=>
    have Iz:T++iq la lb (b.take (j+1)) a[i]=U:=by rw [hsn,yG,hr]; simp
    simp only [Vr]
    (refine aH 80 _ _ ?_; simp only [go_sem])
    apply ah; simp only [go_sem,↓reduceIte,wrapN (k:=j) (by omega)]
    refine R.fE (j+1) (by omega) (l:=by (simp only [go_sem,Iz]); all_goals (and_intros <;> rfl))
   | some row=>
    have Iz:(T++iq la lb (b.take (j+1)) a[i]).map ans=U.map ans++[ans ⟨row,dD a[i].ways b[j].ways⟩]:=by rw [hsn,yG,hr]; simp
    simp only [Vr]
    (refine aH 80 _ _ ?_; simp only [go_sem])
    refine aME ?_
    refine R.aO 19 80 mixed (by decide +kernel) ?_; simp only [go_sem,afM,amm,getD_map,aZ,hlj]
    repeat refine ⟨by omega,?_⟩
    refine RY.kW (Np a[i].ways b[j].ways (by omega) (by omega) wa2 wb2) rfl rfl (.cons (.pd _) (.cons (.pd _) (.nil))) ?_
    (refine aH 80 _ _ ?_; simp only [go_sem])
    refine R.aY 1000000000000 48 rfl rfl (by (simp only [go_sem])) rfl rfl rfl rfl zi rfl xO (by simp) (congrArg (ag6 adF) zl) rfl zk (by simp; omega) (by decide) (by decide) ?_
    apply ah; simp only [go_sem,↓reduceIte,wrapN (k:=j) (by omega)]
    refine R.fE (j+1) (by omega) (l:=by (simp only [go_sem,Iz]); all_goals (and_intros <;> rfl))
  ·have f1:decide ((j:Int)<(b.length:Int))=false:=by simp; omega
   have alT:b.take j=b:=abT (by omega)
   apply ah; simp only [go_sem,↓reduceIte,f1,alT,amm,wrapN (k:=i) (by omega)]
   repeat refine ⟨by omega,?_⟩
   refine R.fE (i+1) (by omega) (l:=by (simp only [go_sem,hsi]); all_goals (and_intros <;> rfl))
 ·have e1:decide ((i:Int)<(a.length:Int))=false:=by simp; omega
  have hke2:a.take i=a:=abT (by omega)
  apply ah; simp only [go_sem,↓reduceIte,e1,hke2,afM]
  repeat refine ⟨by omega,?_⟩
  refine R.bP 10 rfl rfl ?_
  simp only [go_sem]
  refine R.kW (oO _ hL.1 hL.2.1 hL.2.2.1 hL.2.2.2) rfl rfl (.cons (.pd _) (.nil)) ?_
  refine aME ?_
  refine R.kC (sN _) rfl rfl (.cons (.pd _) (.nil)) ?_
  refine aME ?_
  refine R.rW ?_
  rfl
theorem Q9 (p:Plan) (facts:List cZ) (ks:List (List Ans)) (hk:p.kind=5) (hkl:p.kids.length≤2) (hl:ks.length=p.kids.length) (ih:∀ i (h:i<p.kids.length) (h2:i<ks.length),aQ abo 48 [.pd (plan p.kids[i]),.pd (dh facts)] [bT ks[i],B true]) (a b:List Ans) (hks:ks=[a,b]) (ha:a.length≤1000) (hb:b.length≤1000) (hL:FW (a++b)):aQ abo 48 [.pd (plan p),.pd (dh facts)] (zM (some (a++b))):=by
 have q1:(p.kind == 1)=false:=by simp [hk]
 have q2:(p.kind == 2)=false:=by simp [hk]
 have q3:(p.kind == 3)=false:=by simp [hk]
 have q4:(p.kind == 4)=false:=by simp [hk]
 have q5:(p.kind == 5)=true:=by simp [hk]
 rw [aF p]
 refine aQ.mk apI rfl Ap (by simp [aoT]) fun w G=>?_
 refine aMD ?_
 refine R.fJ 6 6 33 1 (by (simp only [go_sem])) rfl rfl ?_
 simp only [go_sem]
 apply ah; simp only [go_sem]
 refine R.fU (fun (i:Nat) s=>St.lp [1,2] [(7,.pd (I i)),(6,.own 6)] [2,19] [] [] [(6,⟨33,1,(ks.take i).map bT⟩)] s) (fun (i:Nat)=>i≤p.kids.length) (fun (i:Nat)=>p.kids.length - i) (0) (by omega) ?_
 rintro i hi
 by_cases aZ:i<p.kids.length
 ·have e1:decide ((i:Int)<(p.kids.length:Int))=true:=by simp; omega
  have hlk:i<ks.length:=by omega
  have hsn:(ks.take (i+1)).map bT=(ks.take i).map bT++[bT ks[i]]:=by rw [abq hlk,acC]; rfl
  apply ah; simp only [go_sem,↓reduceIte,e1,getD_map,aZ,kY,mZ]
  repeat refine ⟨by omega,?_⟩
  refine R.kW (ih i aZ hlk) rfl rfl (.cons (.pd _) (.cons (.pd _) (.nil))) ?_
  refine aME ?_
  refine R.aY 1000000000000 24 rfl rfl (by (simp only [go_sem])) rfl rfl rfl rfl Du rfl zh (by simp) (congrArg (ag6 adF) Dq) rfl Dp (by simp; omega) (by decide) (by decide) ?_
  apply ah; simp only [go_sem,↓reduceIte,wrapN (k:=i) (by omega)]
  refine R.fE (i+1) (by omega) (l:=by (simp only [go_sem,hsn]); all_goals (and_intros <;> rfl))
 have e0:decide ((i:Int)<(p.kids.length:Int))=false:=by simp; omega
 have hke:ks.take i=ks:=abT (by omega)
 clear aZ
 simp only [go_sem,hke]
 subst hks
 refine R.bP 6 rfl rfl ?_
 simp only [go_sem]
 apply ah; simp only [go_sem,↓reduceIte,e0,q1,q2,q3,q4,q5]
 repeat refine ⟨by omega,?_⟩
 refine R.OC [1208] [none,none,none,none,some 1208,none,none,none,some 1208] 60 mixed (by decide +kernel) (by decide +kernel) (fun q hq=>by rw [adJ.1 hq]; exact ⟨rfl,rfl,rfl⟩) ?_
 simp only [go_sem,uH,lY,agX,aj7,Nat.reduceAdd,List.zip_cons_cons,List.zip_nil_left,afM]
 repeat refine ⟨by omega,?_⟩
 refine jD.Fg (by simp) rfl rfl rfl (by (simp only [go_sem])) rfl rfl rfl zi xO (by simp) (congrArg (ag6 adF) zl) rfl (fun q hq=>by rw [getD_map _ _ _ (by simpa using hq)]; rfl) (by show _ * kH abo 39≤_; rw [zk]; simp only [ace]; omega) (by simp only [maxLen,ace]; omega) ?_
 refine mY 60 _ _ ?_
 simp only [go_sem,uH,lY,St.chain,agX,aj7,Nat.reduceAdd,amm]
 repeat refine ⟨by omega,?_⟩
 refine jD.F8 (by simp) rfl rfl rfl (by (simp only [go_sem])) rfl rfl rfl rfl zi rfl xO (by simp) (congrArg (ag6 adF) zl) rfl (fun q hq=>by rw [getD_map _ _ _ (by simpa using hq)]; rfl) (by show _ * kH abo 39≤_; rw [zk]; simp only [ace]; omega) (by simp only [maxLen,ace]; omega) ?_
 refine mY 60 _ _ ?_
 simp only [go_sem,uH,St.chain,er]
 repeat refine ⟨by omega,?_⟩
 rw [← acC]
 refine aME ?_
 refine R.kW (oO _ hL.1 hL.2.1 hL.2.2.1 hL.2.2.2) rfl rfl (.cons (.pd _) (.nil)) ?_
 refine aME ?_
 refine R.kC (sN _) rfl rfl (.cons (.pd _) (.nil)) ?_
 refine aME ?_
 refine R.rW ?_
 rfl
theorem VA (p:Plan) (facts:List cZ) (ks:List (List Ans)) (d:PD) (hkl:p.kids.length≤2) (hl:ks.length<p.kids.length) (ih:∀ i (h:i<p.kids.length) (h2:i<ks.length),aQ abo 48 [.pd (plan p.kids[i]),.pd (dh facts)] [bT ks[i],B true]) (ihf:aQ abo 48 [.pd (plan p.kids[ks.length]),.pd (dh facts)] [d,B false]):aQ abo 48 [.pd (plan p),.pd (dh facts)] (zM none):=by
 rw [aF p]
 refine aQ.mk apI rfl Ap (by simp [aoT]) fun w G=>?_
 refine aMD ?_
 refine R.fJ 6 6 33 1 (by (simp only [go_sem])) rfl rfl ?_
 simp only [go_sem]
 apply ah; simp only [go_sem]
 refine R.fU (fun (i:Nat) s=>St.lp [1,2] [(7,.pd (I i)),(6,.own 6)] [2,19] [] [] [(6,⟨33,1,(ks.take i).map bT⟩)] s) (fun (i:Nat)=>i≤ks.length) (fun (i:Nat)=>ks.length - i) (0) (by omega) ?_
 rintro i hi
 have aZ:i<p.kids.length:=by omega
 have e1:decide ((i:Int)<(p.kids.length:Int))=true:=by simp; omega
 by_cases hlk:i<ks.length
 ·have hsn:(ks.take (i+1)).map bT=(ks.take i).map bT++[bT ks[i]]:=by rw [abq hlk,acC]; rfl
  apply ah; simp only [go_sem,↓reduceIte,e1,getD_map,aZ,kY,mZ]
  repeat refine ⟨by omega,?_⟩
  refine R.kW (ih i aZ hlk) rfl rfl (.cons (.pd _) (.cons (.pd _) (.nil))) ?_
  refine aME ?_
  refine R.aY 1000000000000 24 rfl rfl (by (simp only [go_sem])) rfl rfl rfl rfl Du rfl zh (by simp) (congrArg (ag6 adF) Dq) rfl Dp (by simp; omega) (by decide) (by decide) ?_
  apply ah; simp only [go_sem,↓reduceIte,wrapN (k:=i) (by omega)]
  refine R.fE (i+1) (by omega) (l:=by (simp only [go_sem,hsn]); all_goals (and_intros <;> rfl))
 ·obtain rfl:i=ks.length:=by omega
  apply ah; simp only [go_sem,↓reduceIte,e1,getD_map,aZ,kY,mZ]
  repeat refine ⟨by omega,?_⟩
  refine R.kW (ihf) rfl rfl (.cons (.pd _) (.cons (.pd _) (.nil))) ?_
  refine aME ?_
  refine R.rW ?_
  rfl
theorem Rf (p:Plan) (facts:List cZ) (ks:List (List Ans)) (hk:p.kind=6) (hkl:p.kids.length≤2) (hl:ks.length=p.kids.length) (ih:∀ i (h:i<p.kids.length) (h2:i<ks.length),aQ abo 48 [.pd (plan p.kids[i]),.pd (dh facts)] [bT ks[i],B true]) (a b:List Ans) (hks:ks=[a,b]) (ha:a.length≤1000) (hb:b.length≤1000) (jd:∀ x∈a,x.ways.length≤400∧∀ w∈x.ways,jy 10000 w) (hwb:∀ x∈b,x.ways.length≤400∧∀ w∈x.ways,jy 10000 w) (hL:FW (a.map (rE b))):aQ abo 48 [.pd (plan p),.pd (dh facts)] (zM (Ec a b)):=by
 have q1:(p.kind == 1)=false:=by simp [hk]
 have q2:(p.kind == 2)=false:=by simp [hk]
 have q3:(p.kind == 3)=false:=by simp [hk]
 have q4:(p.kind == 4)=false:=by simp [hk]
 have q5:(p.kind == 5)=false:=by simp [hk]
 have q6:(p.kind == 6)=true:=by simp [hk]
 rw [aF p]
 refine aQ.mk apI rfl Ap (by simp [aoT]) fun w G=>?_
 refine aMD ?_
 refine R.fJ 6 6 33 1 (by (simp only [go_sem])) rfl rfl ?_
 simp only [go_sem]
 apply ah; simp only [go_sem]
 refine R.fU (fun (i:Nat) s=>St.lp [1,2] [(7,.pd (I i)),(6,.own 6)] [2,19] [] [] [(6,⟨33,1,(ks.take i).map bT⟩)] s) (fun (i:Nat)=>i≤p.kids.length) (fun (i:Nat)=>p.kids.length - i) (0) (by omega) ?_
 rintro i hi
 by_cases aZ:i<p.kids.length
 ·have e1:decide ((i:Int)<(p.kids.length:Int))=true:=by simp; omega
  have hlk:i<ks.length:=by omega
  have hsn:(ks.take (i+1)).map bT=(ks.take i).map bT++[bT ks[i]]:=by rw [abq hlk,acC]; rfl
  apply ah; simp only [go_sem,↓reduceIte,e1,getD_map,aZ,kY,mZ]
  repeat refine ⟨by omega,?_⟩
  refine R.kW (ih i aZ hlk) rfl rfl (.cons (.pd _) (.cons (.pd _) (.nil))) ?_
  refine aME ?_
  refine R.aY 1000000000000 24 rfl rfl (by (simp only [go_sem])) rfl rfl rfl rfl Du rfl zh (by simp) (congrArg (ag6 adF) Dq) rfl Dp (by simp; omega) (by decide) (by decide) ?_
  apply ah; simp only [go_sem,↓reduceIte,wrapN (k:=i) (by omega)]
  refine R.fE (i+1) (by omega) (l:=by (simp only [go_sem,hsn]); all_goals (and_intros <;> rfl))
 have e0:decide ((i:Int)<(p.kids.length:Int))=false:=by simp; omega
 have hke:ks.take i=ks:=abT (by omega)
 clear aZ
 simp only [go_sem,hke]
 subst hks
 refine R.bP 6 rfl rfl ?_
 simp only [go_sem]
 apply ah; simp only [go_sem,↓reduceIte,e0,q1,q2,q3,q4,q5,q6]
 repeat refine ⟨by omega,?_⟩
 refine R.fJ 10 10 39 2 (by (simp only [go_sem])) rfl rfl ?_
 simp only [go_sem]
 refine R.fU (fun (i:Nat) s=>St.lp [6] [(18,.pd (I i)),(10,.own 10)] [2] [] [] [(10,⟨39,2,((a.take i).map (rE b)).map ans⟩)] s) (fun (i:Nat)=>i≤a.length∧∀ j (h:j<a.length),j<i→(minL b a[j]).isSome=true) (fun (i:Nat)=>a.length - i) (0) (⟨by omega,by intros; omega⟩) ?_
 rintro i ⟨hi,hdone⟩
 by_cases aZ:i<a.length
 ·have e1:decide ((i:Int)<(a.length:Int))=true:=by simp; omega
  obtain ⟨wa1,wa2⟩:=jd a[i] (ab5 aZ)
  have hsn:((a.take (i+1)).map (rE b)).map ans=((a.take i).map (rE b)).map ans++[ans (rE b a[i])]:=by rw [abq aZ,acC,acC]; rfl
  have hTl:(((a.take i).map (rE b)).map ans).length≤1000:=by simp; omega
  have hmA:rE b a[i]=⟨a[i].row,(minL b a[i]).getD []⟩:=rfl
  have hmL:minL b a[i]=dS a[i].ways (yF b a[i].row):=rfl
  have hfa:=aa4 b a[i].row
  generalize ((a.take i).map (rE b)).map ans=T at hsn hTl
  apply ah; simp only [go_sem,↓reduceIte,e1,afM,getD_map,aZ]
  repeat refine ⟨by omega,?_⟩
  refine R.aO 5 80 mixed (by decide +kernel) ?_; simp only [go_sem,amm]
  repeat refine ⟨by omega,?_⟩
  refine R.kC (acB b a[i].row) rfl rfl (.cons (.pd _) (.cons (.pd _) (.nil))) ?_
  cases hat:atR b a[i].row with
  | none=>
   rw [hat] at hfa
   simp only at hfa
   rw [hfa,dS] at hmL
   rw [hmL] at hmA
   have e2:decide (J7 none≥0)=false:=rfl
   refine aME ?_
   refine R.fU (fun (m:Nat) s=>St.lp [6,10,18,19,20] [(21,.pd (I m))] [2,19] [] [10] [] s) (fun (m:Nat)=>m=0) (fun (m:Nat)=>0) (0) (rfl) ?_
   rintro m rfl
   apply ah; simp only [go_sem,↓reduceIte,e2]
   refine R.aY 1000000000000 48 rfl rfl (by (simp only [go_sem])) rfl rfl rfl rfl zi rfl xO (by simp) (congrArg (ag6 adF) zl) rfl zk (by simp; omega) (by decide) (by decide) ?_
   apply ah; simp only [go_sem,↓reduceIte,wrapN (k:=i) (by omega)]
   refine R.fE (i+1) ⟨by omega,fun j h hj=>?_⟩ (l:=by (simp only [go_sem,hsn,hmA]); all_goals (and_intros <;> rfl))
   rcases aky j i with c | c
   ·exact hdone j h c
   ·obtain rfl:j=i:=by omega
    rw [hmL]; rfl
  | some k=>
   have hk3:=vC hat
   rw [hat] at hfa
   simp only [ajW hk3,Option.map_some,akt] at hfa
   obtain ⟨wb1,wb2⟩:=hwb b[k] (ab5 hk3)
   rw [hfa] at hmL
   have e2:decide (J7 (some k)≥0)=true:=by simp [J7]
   have e3:J7 (some k)=(k:Int):=rfl
   rw [e3] at e2 ⊢
   refine aME ?_
   refine R.fU (fun (q:Nat × List W) s=>St.lp [6,10,18,19,20] [(21,.pd (I q.1))] [2] [(19,[.pd (vals a[i].row),.pd (ways q.2)])] [10] [] s) (fun (q:Nat × List W)=>q.1≤b[k].ways.length∧dS a[i].ways (b[k].ways.take q.1)=some q.2) (fun (q:Nat × List W)=>b[k].ways.length - q.1) ((0,a[i].ways)) (⟨by simp,by simp [dS]⟩) ?_
   rintro ⟨m,l⟩ ⟨hm,hinv⟩
   simp only at hm hinv
   obtain ⟨hll,hl4⟩:=yu (n:=10000) _ _ _ hinv wa2 wa1
   by_cases hlm:m<b[k].ways.length
   ·have f1:decide ((m:Int)<(b[k].ways.length:Int))=true:=by simp; omega
    have hsm:=AP b[k].ways[m] _ _ _ hinv
    have hnm:=AQ b[k].ways[m] (b[k].ways.drop (m+1)) _ _ _ hinv
    rw [← abq hlm] at hsm
    have hdr:b[k].ways.take m++b[k].ways[m]::b[k].ways.drop (m+1)=b[k].ways:=by rw [← drop_cons hlm,akz]
    rw [hdr,← hmL] at hnm
    have hyl:=wb2 b[k].ways[m] (ab5 hlm)
    have hag:=Vq l b[k].ways[m] (by omega) (fun x hx=>by have h1:=hll x hx; simp only [jy,ako] at h1; omega) (by unfold jy at hyl; omega) (by unfold jy at hyl; omega)
    generalize aT (dD l (jY b[k].ways[m]))=N at hsm hnm hag
    apply ah; simp only [go_sem,↓reduceIte,f1,amm,getD_map,hk3]
    repeat refine ⟨by omega,?_⟩
    refine R.aO 12 80 mixed (by decide +kernel) ?_; simp only [go_sem,amm,getD_map,hk3,hlm]
    repeat refine ⟨by omega,?_⟩
    refine R.kW (hag) rfl rfl (.cons (.pd _) (.cons (.pd _) (.nil))) ?_
    by_cases hN:N.length≤400
    ·have f2:decide ((N.length:Int) > 400)=false:=by simp; omega
     rw [ab8 hN] at hsm
     apply ah; simp only [go_sem,↓reduceIte,f2,wrapN (k:=m) (by omega)]
     refine R.fE (m+1,N) ⟨by simp only; omega,hsm⟩ (by show _<_; simp only; omega)
    ·have f2:decide ((N.length:Int) > 400)=true:=by simp; omega
     have hnone:=hnm hN
     have hout:Ec a b=none:=YP (ab5 aZ) hnone
     rw [hout]
     apply ah; simp only [go_sem,↓reduceIte,f2]
     refine R.rW ?_
     rfl
   ·have f1:decide ((m:Int)<(b[k].ways.length:Int))=false:=by simp; omega
    rw [abT (by omega)] at hinv
    rw [hinv] at hmL
    rw [hmL] at hmA
    apply ah; simp only [go_sem,↓reduceIte,f1,amm,getD_map,hk3]
    repeat refine ⟨by omega,?_⟩
    refine R.aY 1000000000000 48 rfl rfl (by (simp only [go_sem])) rfl rfl rfl rfl zi rfl xO (by simp) (congrArg (ag6 adF) zl) rfl zk (by simp; omega) (by decide) (by decide) ?_
    apply ah; simp only [go_sem,↓reduceIte,wrapN (k:=i) (by omega)]
    refine R.fE (i+1) ⟨by omega,fun j h hj=>?_⟩ (l:=by (simp only [go_sem,hsn,hmA]); all_goals (and_intros <;> rfl))
    rcases aky j i with c | c
    ·exact hdone j h c
    ·obtain rfl:j=i:=by omega
     rw [hmL]; rfl
 ·have e1:decide ((i:Int)<(a.length:Int))=false:=by simp; omega
  have hke2:a.take i=a:=abT (by omega)
  have hout:Ec a b=some (a.map (rE b)):=YQ fun x hx=>by
   obtain ⟨j,hj,rfl⟩:=agY hx
   exact hdone j hj (by omega)
  rw [hout]
  apply ah; simp only [go_sem,↓reduceIte,e1,hke2,afM]
  repeat refine ⟨by omega,?_⟩
  refine R.bP 10 rfl rfl ?_
  simp only [go_sem]
  refine R.kW (oO _ hL.1 hL.2.1 hL.2.2.1 hL.2.2.2) rfl rfl (.cons (.pd _) (.nil)) ?_
  refine aME ?_
  refine R.kC (sN _) rfl rfl (.cons (.pd _) (.nil)) ?_
  refine aME ?_
  refine R.rW ?_
  rfl
theorem Tz (c:Nat):∀ l:List Ans,(∀ a∈l,a.ways.length≤c)→lW l≤c * l.length
 | [],_=>by simp [lW]
 | a::l,h=>by
  have h1:=h a (adX ..)
  have h2:=Tz c l fun b hb=>h b (adW _ hb)
  simp only [lW,acn,List.sum_cons,agX,Nat.mul_add,anB] at h2 ⊢; omega
structure Ar (c:Nat) (a:List Ans):Prop where
 len:a.length≤1000
 valid:∀ x∈a,dI x.row
 width:∀ x∈a,x.row.length=c
 few:∀ x∈a,x.ways.length≤400∧∀ w∈x.ways,jy 10000 w
theorem Ar.ok {c:Nat} {a:List Ans} (h:Ar c a):∀ x∈a,x.ways.length≤400∧∀ w∈x.ways,okW w:=fun x hx=>⟨(h.few x hx).1,fun w hw=>by have:=(h.few x hx).2 w hw; unfold jy at this; exact ⟨by omega,by omega⟩⟩
theorem YU {n c:Nat} {m:AM} (h:ig n c m) (hn:n≤4000):Ar c (iw m):=by
 have hp:=ku m
 have hm:∀ x∈iw m,∃ q∈m,q.2=x:=fun x hx=>acE.1 (hp.mem_iff.1 hx)
 refine ⟨by rw [hp.length_eq,ace]; exact h.len,fun x hx=>?_,fun x hx=>?_,fun x hx=>?_⟩
 ·obtain ⟨q,hq,rfl⟩:=hm x hx; exact h.valid q hq
 ·obtain ⟨q,hq,rfl⟩:=hm x hx; exact h.width q hq
 ·obtain ⟨q,hq,rfl⟩:=hm x hx
  refine ⟨h.few q hq,fun w hw=>?_⟩
  have hi:=h.xG q hq w hw
  rw [← h.min q hq] at hw
  obtain ⟨h1,h2⟩:=rO hw
  have a:=tY h1 hi.1; have b:=tY h2 hi.2
  exact ⟨by omega,by omega⟩
theorem wH {M:List Ans} {l c:Nat} (hv:∀ a∈M,dI a.row) (hl:M.length≤l) (hc:∀ a∈M,a.ways.length≤c∧∀ w∈a.ways,okW w) (h1:l≤1000000) (h2:c * l≤1000000000000):FW M:=
 ⟨hv,by omega,aj2 (Tz c M fun a ha=>(hc a ha).1) (aj2 (Nat.mul_le_mul_left c hl) h2),fun a ha=>(hc a ha).2⟩
theorem adA (t:Int) (facts:List cZ):(uQ t facts).length≤facts.length∧∀ a∈uQ t facts,a.ways.length≤1∧∀ w∈a.ways,okW w:=by
 constructor
 ·have:=Eb 1 (Ld t) facts.zipIdx fun q _=>by unfold Ld; split <;> simp
  rw [Nat.one_mul,arX] at this
  exact this
 ·intro a ha
  obtain ⟨q,_,ha⟩:=amb.1 ha
  unfold Ld at ha
  split at ha
  ·rw [adJ.1 ha]
   exact ⟨by simp,fun w hw=>by rw [adJ.1 hw]; exact ⟨by simp,by simp⟩⟩
  ·simp at ha
theorem aa8 {la lb:List Attr} {c d:Nat} {a b:List Ans} (ha:Ar c a) (hb:Ar d b):∀ x∈a.flatMap (iq la lb b),x.ways.length≤160000∧∀ w∈x.ways,okW w:=by
 intro x hx
 obtain ⟨y,hy,hx⟩:=amb.1 hx
 obtain ⟨z,hz,hx⟩:=amb.1 hx
 unfold yG at hx
 split at hx
 ·rw [adJ.1 hx]
  have h1:=ha.few y hy
  have h2:=hb.few z hz
  refine ⟨?_,fun w hw=>?_⟩
  ·rw [qF]; exact aj2 (apn h1.1 h2.1) (by decide)
  ·have:=Aa h1.2 h2.2 w hw
   unfold jy at this
   exact ⟨by omega,by omega⟩
 ·simp at hx
theorem aa9 {b:List Ans} {c d:Nat} {a:List Ans} (ha:Ar c a) (hb:Ar d b):∀ x∈a.map (rE b),x.ways.length≤400∧∀ w∈x.ways,okW w:=by
 intro x hx
 obtain ⟨y,hy,rfl⟩:=acE.1 hx
 have h1:=ha.few y hy
 cases h:minL b y with
 | none=>simp [rE,h]
 | some l=>
  have hfw:(yF b y.row).length≤400:=by
   rcases Qk b y.row with ⟨e,_⟩ | ⟨z,hz,_,e⟩
   ·rw [e]; simp
   ·rw [e]; exact (hb.few z hz).1
  obtain ⟨h3,h4⟩:=yu _ _ _ h h1.2 h1.1
  simp only [rE,h,akt]
  exact ⟨h4,fun w hw=>by have:=h3 w hw; unfold jy at this; exact ⟨by omega,by omega⟩⟩
theorem Ko {α β:Type} (f:α→Option β):∀ l:List α,jG (l.map f)=none→∃ j,∃ h:j<l.length,f l[j]=none∧∃ ks:List β,ks.length=j∧∀ i (h:i<l.length) (h2:i<ks.length),f l[i]=some ks[i]
 | [],h=>by simp [jG] at h
 | x::l,h=>by
  cases hx:f x with
  | none=>exact ⟨0,by simp,hx,[],rfl,fun i _ h2=>by simp at h2⟩
  | some y=>
   rw [acn,hx] at h
   simp only [jG] at h
   have h:jG (l.map f)=none:=by
    cases h2:jG (l.map f) with
    | none=>rfl
    | some r=>rw [h2] at h; cases h
   obtain ⟨j,hj,e,ks,hk,hall⟩:=Ko f l h
   refine ⟨j+1,by simpa using hj,by simpa using e,y::ks,by simp [hk],fun i hi h2=>?_⟩
   cases i with
   | zero=>simpa using hx
   | succ i=>simpa using hall i (by simpa using hi) (by simpa using h2)
theorem VB {tl:List bJ} {n:Nat} {p:Plan} (h:Shape tl n p):p.kids.length≤2:=by
 cases h with
 | table _ hks=>rw [hks]; simp
 | sel _ q hks=>rw [hks]; simp
 | proj _ q hks=>rw [hks]; simp
 | ren _ q hks=>rw [hks]; simp
 | join _ q r hks=>rw [hks]; simp
 | union _ q r hks=>rw [hks]; simp
 | minus _ q r hks=>rw [hks]; simp
theorem Ns {tl:List bJ} {facts:List cZ} (hf:jZ tl facts):∀ (n:Nat) (p:Plan),aX n tl p=true→grp p=false→ni p→∃ d,aQ abo 48 [.pd (plan p),.pd (dh facts)] [d,B (sQ facts n p).isSome]∧∀ l,sQ facts n p=some l→d=bT l
 | 0,p,hv,_,_=>by simp [aX] at hv
 | n+1,p,hv,hg,ho=>by
  obtain ⟨h8,hgk⟩:=zF hg
  have hs:=rP hv h8
  obtain ⟨hoa,hoc,hot,hok,abb⟩:=(gB p).1 ho
  have hkl:=VB hs
  have ih:=fun q (hq:q∈p.kids)=>Ns hf n q (hs.kids q hq) (hgk q hq) (kT abb q hq)
  have ih2:∀ (ks:List (List Ans)),(∀ i (h:i<p.kids.length) (h2:i<ks.length),sQ facts n p.kids[i]=some ks[i])→∀ i (h:i<p.kids.length) (h2:i<ks.length),aQ abo 48 [.pd (plan p.kids[i]),.pd (dh facts)] [bT ks[i],B true]:=fun ks hk i h h2=>by
   obtain ⟨d,h3,h4⟩:=ih _ (ab5 h)
   rw [hk i h h2] at h3 h4
   rw [h4 _ rfl] at h3
   exact h3
  cases h:jG (p.kids.map (sQ facts n)) with
  | none=>
   obtain ⟨j,hj,e,ks,hkj,hall⟩:=Ko _ _ h
   obtain ⟨d,h3,_⟩:=ih _ (ab5 hj)
   rw [e] at h3
   have hw:=VA p facts ks d hkl (by omega) (ih2 ks hall) (by subst hkj; exact h3)
   have e2:sQ facts (n+1) p=none:=by rw [sQ,h]
   exact ⟨fC,by rw [e2]; exact hw,fun l hl=>by rw [e2] at hl; cases hl⟩
  | some ks=>
   obtain ⟨hl,h4⟩:=wS (nC.1 h)
   have ihk:=ih2 ks h4
   have hgood:∀ i (h:i<p.kids.length) (h2:i<ks.length),Ar p.kids[i].attrs.length ks[i]:=fun i hi hi2=>by
    have h5:=h4 i hi hi2
    have hvk:=hs.kids _ (ab5 hi)
    have hgg:=hgk _ (ab5 hi)
    rw [Ee hf n _ hvk hgg] at h5
    cases h6:kZ facts n p.kids[i] with
    | none=>rw [h6] at h5; cases h5
    | some m=>
     rw [h6] at h5
     have h5:iw m=ks[i]:=by simpa using h5
     rw [← h5]
     exact YU (tZ hf n _ _ hvk hgg (JY n _ _ h6)) hf.1
   have hsame:∀ M,Bf p facts ks=some M→∀ a∈M,dI a.row:=fun M hM=>by
    have e:p.kids.map (sQ facts n)=(p.kids.map (kZ facts n)).map (ag6 iw):=by
     rw [amk]
     exact akh fun q hq=>Ee hf n q (hs.kids q hq) (hgk q hq)
    rw [e,IK] at h
    cases h6:jG (p.kids.map (kZ facts n)) with
    | none=>rw [h6] at h; cases h
    | some ms=>
     rw [h6] at h
     have h:ms.map iw=ks:=by simpa using h
     obtain ⟨hl2,h7⟩:=wS (nC.1 h6)
     have hc:∀ i (h:i<p.kids.length) (h2:i<ms.length),ig facts.length p.kids[i].attrs.length ms[i]:=fun i hi hi2=>
      tZ hf n _ _ (hs.kids _ (ab5 hi)) (hgk _ (ab5 hi)) (JY n _ _ (h7 i hi hi2))
     have:=Qw hf hs hl2 hc
     rw [h,hM] at this
     cases h8:bZ p facts ms with
     | none=>rw [h8] at this; exact this.elim
     | some L=>rw [h8] at this; exact this.2
   have main:aQ abo 48 [.pd (plan p),.pd (dh facts)] (zM (Bf p facts ks)):=by
    have hshape:=hs
    unfold Bf at hsame ⊢
    cases hs with
    | table hk hks h0 h1 hl'=>
     rw [ab8 hk] at hsame ⊢
     obtain ⟨t1,t2⟩:=adA p.table facts
     have:=hf.1
     rw [hks] at hl
     exact YR p facts ks hk hkl (by rw [hl,hks]) ihk (aks.1 hl) hf.1 (wH (hsame _ rfl) t1 t2 (by omega) (by omega))
    | sel hk q hks hq hsv hl'=>
     have g:=hgood 0 (by rw [hks]; simp) (by rw [hl,hks]; simp)
     have hl2:ks.length=1:=by rw [hl,hks]; rfl
     obtain ⟨a,rfl⟩:=ajV.1 hl2
     simp only [hk,hks,reduceIte,akD] at hsame ⊢
     simp only [hks,akv] at g
     exact YS p facts [a] hk hkl hl ihk a rfl g.len (fun x hx t ht=>Qb hsv (g.width x hx) t ht) (wH (hsame _ rfl) (aj2 (anw ..) g.len) (fun x hx=>g.ok x (amC.1 hx).1) (by omega) (by omega))
    | proj hk q hks hq hcc hl'=>
     have g:=hgood 0 (by rw [hks]; simp) (by rw [hl,hks]; simp)
     have hl2:ks.length=1:=by rw [hl,hks]; rfl
     obtain ⟨a,rfl⟩:=ajV.1 hl2
     simp only [hk,hks,reduceIte,akD] at hsame ⊢
     simp only [hks,akv] at g
     exact Vy p facts [a] hk hkl hl ihk a rfl g.len hoc (fun x hx c hc=>by rw [g.width x hx]; exact hcc c hc) (wH (hsame _ rfl) (by rw [ace]; exact g.len) (fun x hx=>by obtain ⟨y,hy,rfl⟩:=acE.1 hx; exact g.ok y hy) (by omega) (by omega))
    | ren hk q hks hq hl'=>
     have g:=hgood 0 (by rw [hks]; simp) (by rw [hl,hks]; simp)
     have hl2:ks.length=1:=by rw [hl,hks]; rfl
     obtain ⟨a,rfl⟩:=ajV.1 hl2
     simp only [hk,hks,reduceIte,akD] at hsame ⊢
     simp only [hks,akv] at g
     exact YT p facts [a] hk hkl hl ihk a rfl (wH (hsame _ rfl) g.len g.ok (by omega) (by omega))
    | join hk q r hks hq hr hn hj=>
     have g1:=hgood 0 (by rw [hks]; simp) (by rw [hl,hks]; simp)
     have g2:=hgood 1 (by rw [hks]; simp) (by rw [hl,hks]; simp)
     have hl2:ks.length=2:=by rw [hl,hks]; rfl
     obtain ⟨a,b,rfl⟩:=jW hl2
     have hoq:=(gB q).1 (kT abb q (by rw [hks]; simp))
     have hor:=(gB r).1 (kT abb r (by rw [hks]; simp))
     have hv4:∀ M,some (a.flatMap (iq q.attrs r.attrs b))=some M→∀ x∈M,dI x.row:=by
      simp only [hk,hks,reduceIte,akD] at hsame; exact hsame
     simp only [hk,hks,reduceIte,akD]
     simp only [hks,akv,amx] at g1 g2
     exact Vz p facts [a,b] hk hkl hl ihk a b rfl q r hks g1.len g2.len g1.width g2.width (by omega) (by omega) g1.ok g2.ok (wH (hv4 _ rfl) (Nr _ _ g1.len g2.len) (aa8 g1 g2) (by omega) (by omega))
    | union hk q r hks hq hr hl1 alU=>
     have g1:=hgood 0 (by rw [hks]; simp) (by rw [hl,hks]; simp)
     have g2:=hgood 1 (by rw [hks]; simp) (by rw [hl,hks]; simp)
     have hl2:ks.length=2:=by rw [hl,hks]; rfl
     obtain ⟨a,b,rfl⟩:=jW hl2
     simp only [hk,hks,reduceIte,akD] at hsame ⊢
     simp only [hks,akv,amx] at g1 g2
     have:=g1.len; have:=g2.len
     exact Q9 p facts [a,b] hk hkl hl ihk a b rfl g1.len g2.len (wH (l:=2000) (hsame _ rfl) (by rw [agU]; omega) (fun x hx=>(aj8.1 hx).elim (g1.ok x) (g2.ok x)) (by omega) (by omega))
    | minus hk q r hks hq hr hl1 alU=>
     have g1:=hgood 0 (by rw [hks]; simp) (by rw [hl,hks]; simp)
     have g2:=hgood 1 (by rw [hks]; simp) (by rw [hl,hks]; simp)
     have hl2:ks.length=2:=by rw [hl,hks]; rfl
     obtain ⟨a,b,rfl⟩:=jW hl2
     simp only [hk,hks,reduceIte,akD] at hsame ⊢
     simp only [hks,akv,amx] at g1 g2
     refine Rf p facts [a,b] hk hkl hl ihk a b rfl g1.len g2.len g1.few g2.few (wH (fun x hx=>?_) (by rw [ace]; exact g1.len) (aa9 g1 g2) (by omega) (by omega))
     obtain ⟨y,hy,rfl⟩:=acE.1 hx
     exact g1.valid y hy
   have e3:sQ facts (n+1) p=match Bf p facts ks with | none=>none | some L=>if wG (sO L)=true then some (sO L) else none:=by rw [sQ,h]; rfl
   cases h9:Bf p facts ks with
   | none=>
    rw [h9] at main e3
    exact ⟨fC,by rw [e3]; exact main,fun l hl=>by rw [e3] at hl; cases hl⟩
   | some L=>
    rw [h9] at main e3
    simp only at e3
    cases h10:wG (sO L) with
    | true=>
     rw [h10,ab8 rfl] at e3
     have main:aQ abo 48 [.pd (plan p),.pd (dh facts)] [bT (sO L),B true]:=by simpa only [zM,h10] using main
     refine ⟨bT (sO L),by rw [e3]; exact main,fun l hl=>?_⟩
     rw [e3] at hl; cases hl; rfl
    | false=>
     rw [h10,abQ (by simp)] at e3
     have main:aQ abo 48 [.pd (plan p),.pd (dh facts)] [bT (sO L),B false]:=by simpa only [zM,h10] using main
     exact ⟨bT (sO L),by rw [e3]; exact main,fun l hl=>by rw [e3] at hl; cases hl⟩
theorem agZ:aG abo 231:=fun _ _=>by kernel_rfl
theorem ag0:aG abo 232:=fun _ _=>by kernel_rfl
theorem ag1:aG abo 233:=fun _ _=>by kernel_rfl
theorem ag2:aG abo 160:=fun _ _=>by kernel_rfl
theorem ag4:aG abo 279:=fun _ _=>by kernel_rfl
theorem _root_.Go.au.RY.skip {C:Cx} {all:Array Oper} {tail:List Oper} {o:Oper} {l:List Oper} {k:List KI} {s:St} {j t:Nat} {want:Bool} (hg:o.guard=some (j,want)) (hj:(all[j]?).bind (·.dst)=some t) (h:Wv (s.get t) (!want)∨s.get t = .tpl []) (hd:fQ s o)
  (next:RY C all tail k l (s.put o.dst (.tpl []))):RY C all tail k (o::l) s:=⟨.tpl [],.inr (.inr ⟨j,want,t,hg,hj,.inr ⟨h,rfl⟩⟩),aj hd,next⟩
theorem Nu (s:ByteArray) (hs:s.size≤9223372036854775807):aA abo 231 [.pd (S s)] [B (iT s)]:=by
 have hsz:s.data.toList.length=s.size:=Array.length_toList
 refine aA.mk Tryz.func231 rfl agZ (by simp [Tryz.ntmps231]) fun w G=>?_
 refine aMD ?_
 refine R.fU (fun (k:Nat) s=>St.lp [0] [(3,.pd (I k))] [] [] [] [] s) (fun (k:Nat)=>k≤s.size∧qg true s.data.toList=qg (k == 0) (s.data.toList.drop k)) (fun (k:Nat)=>s.size - k) (0) (⟨by omega,by simp⟩) ?_
 rintro k ⟨hk,hinv⟩
 by_cases hlt:k<s.size
 ·have e1:decide ((k:Int)<(s.size:Int))=true:=by simp; omega
  have OT:k<s.data.toList.length:=by omega
  rw [drop_cons OT,qg] at hinv
  have hget:s.data.toList.getD k 0=s.data.toList[k]:=by rw [abp,ajW OT]; rfl
  have hc:=s.data.toList[k].toNat_lt
  generalize hcc:s.data.toList[k].toNat=c at hinv hc
  have yes:(iW c || !(k == 0)&&nT c)=true→qg true s.data.toList=qg (k+1 == 0) (s.data.toList.drop (k+1)):=fun e=>by
   rw [hinv,e]; simp
  have no:(iW c || !(k == 0)&&nT c)=false→iT s=false:=fun e=>by
   rw [iT,hinv,e]; simp
  have hb:(k<s.size)=True:=eq_true hlt
  clear hinv
  by_cases hA:97≤c∧c≤122
  ·skip
   have a1:decide ((c:Int)≥97)=true:=by first | exact abE (by omega) | exact abz (by omega)
   have a2:decide ((c:Int)≤122)=true:=by first | exact abE (by omega) | exact abz (by omega)
   have a3:decide ((c:Int)≥65)=true:=by first | exact abE (by omega) | exact abz (by omega)
   have a4:decide ((c:Int)≤90)=false:=by first | exact abE (by omega) | exact abz (by omega)
   have a5:decide ((c:Int)≥48)=true:=by first | exact abE (by omega) | exact abz (by omega)
   have a6:decide ((c:Int)≤57)=false:=by first | exact abE (by omega) | exact abz (by omega)
   have a7:((c:Int) == 95)=false:=by first | exact abE (by omega) | exact abz (by omega)
   apply ah; simp only [go_sem,↓reduceIte,e1,hget,hcc,a1,a2,a5,a6,a7,wrapN (k:=k) (by omega)]
   repeat refine ⟨by omega,?_⟩
   refine R.fE (k+1) ⟨by omega,yes (by simp [iW]; omega)⟩
  by_cases hC:65≤c∧c≤90
  ·skip
   have a1:decide ((c:Int)≥97)=false:=by first | exact abE (by omega) | exact abz (by omega)
   have a2:decide ((c:Int)≤122)=true:=by first | exact abE (by omega) | exact abz (by omega)
   have a3:decide ((c:Int)≥65)=true:=by first | exact abE (by omega) | exact abz (by omega)
   have a4:decide ((c:Int)≤90)=true:=by first | exact abE (by omega) | exact abz (by omega)
   have a5:decide ((c:Int)≥48)=true:=by first | exact abE (by omega) | exact abz (by omega)
   have a6:decide ((c:Int)≤57)=false:=by first | exact abE (by omega) | exact abz (by omega)
   have a7:((c:Int) == 95)=false:=by first | exact abE (by omega) | exact abz (by omega)
   apply ah; simp only [go_sem,↓reduceIte,e1,hget,hcc,a1,a3,a4,a5,a6,a7,wrapN (k:=k) (by omega)]
   repeat refine ⟨by omega,?_⟩
   refine R.fE (k+1) ⟨by omega,yes (by simp [iW]; omega)⟩
  by_cases hB:122<c
  ·skip
   have a1:decide ((c:Int)≥97)=true:=by first | exact abE (by omega) | exact abz (by omega)
   have a2:decide ((c:Int)≤122)=false:=by first | exact abE (by omega) | exact abz (by omega)
   have a3:decide ((c:Int)≥65)=true:=by first | exact abE (by omega) | exact abz (by omega)
   have a4:decide ((c:Int)≤90)=false:=by first | exact abE (by omega) | exact abz (by omega)
   have a5:decide ((c:Int)≥48)=true:=by first | exact abE (by omega) | exact abz (by omega)
   have a6:decide ((c:Int)≤57)=false:=by first | exact abE (by omega) | exact abz (by omega)
   have a7:((c:Int) == 95)=false:=by first | exact abE (by omega) | exact abz (by omega)
   cases k0:((k:Int) == 0) with
   | true=>
    have k1:(k == 0)=true:=by simp at k0 ⊢; omega
    rw [no (by rw [k1]; simp [iW]; omega)]
    apply ah; simp only [go_sem,↓reduceIte,e1,hget,hcc,a1,a2,a3,a4,a5,a6,a7,k0]
    repeat refine ⟨by omega,?_⟩
    refine R.rC ?_
    rfl
   | false=>
    have k1:(k == 0)=false:=by simp at k0 ⊢; omega
    rw [no (by rw [k1]; simp [iW,nT]; omega)]
    apply ah; simp only [go_sem,↓reduceIte,e1,hget,hcc,a1,a2,a3,a4,a5,a6,a7,k0]
    repeat refine ⟨by omega,?_⟩
    refine R.rC ?_
    rfl
  by_cases hD:90<c∧c<95∨c=96
  ·skip
   have a1:decide ((c:Int)≥97)=false:=by first | exact abE (by omega) | exact abz (by omega)
   have a2:decide ((c:Int)≤122)=true:=by first | exact abE (by omega) | exact abz (by omega)
   have a3:decide ((c:Int)≥65)=true:=by first | exact abE (by omega) | exact abz (by omega)
   have a4:decide ((c:Int)≤90)=false:=by first | exact abE (by omega) | exact abz (by omega)
   have a5:decide ((c:Int)≥48)=true:=by first | exact abE (by omega) | exact abz (by omega)
   have a6:decide ((c:Int)≤57)=false:=by first | exact abE (by omega) | exact abz (by omega)
   have a7:((c:Int) == 95)=false:=by first | exact abE (by omega) | exact abz (by omega)
   cases k0:((k:Int) == 0) with
   | true=>
    have k1:(k == 0)=true:=by simp at k0 ⊢; omega
    rw [no (by rw [k1]; simp [iW]; omega)]
    apply ah; simp only [go_sem,↓reduceIte,e1,hget,hcc,a1,a3,a4,a5,a6,a7,k0]
    repeat refine ⟨by omega,?_⟩
    refine R.rC ?_
    rfl
   | false=>
    have k1:(k == 0)=false:=by simp at k0 ⊢; omega
    rw [no (by rw [k1]; simp [iW,nT]; omega)]
    apply ah; simp only [go_sem,↓reduceIte,e1,hget,hcc,a1,a3,a4,a5,a6,a7,k0]
    repeat refine ⟨by omega,?_⟩
    refine R.rC ?_
    rfl
  by_cases hU:c=95
  ·skip
   have a1:decide ((c:Int)≥97)=false:=by first | exact abE (by omega) | exact abz (by omega)
   have a2:decide ((c:Int)≤122)=true:=by first | exact abE (by omega) | exact abz (by omega)
   have a3:decide ((c:Int)≥65)=true:=by first | exact abE (by omega) | exact abz (by omega)
   have a4:decide ((c:Int)≤90)=false:=by first | exact abE (by omega) | exact abz (by omega)
   have a5:decide ((c:Int)≥48)=true:=by first | exact abE (by omega) | exact abz (by omega)
   have a6:decide ((c:Int)≤57)=false:=by first | exact abE (by omega) | exact abz (by omega)
   have a7:((c:Int) == 95)=true:=by first | exact abE (by omega) | exact abz (by omega)
   cases k0:((k:Int) == 0) with
   | true=>
    have k1:(k == 0)=true:=by simp at k0 ⊢; omega
    rw [no (by rw [k1]; simp [iW]; omega)]
    apply ah; simp only [go_sem,↓reduceIte,e1,hget,hcc,a1,a3,a4,a5,a6,a7,k0]
    repeat refine ⟨by omega,?_⟩
    refine R.rC ?_
    rfl
   | false=>
    have k1:(k == 0)=false:=by simp at k0 ⊢; omega
    apply ah; simp only [go_sem,↓reduceIte,e1,hget,hcc,a1,a3,a4,a5,a6,a7,k0,wrapN (k:=k) (by omega)]
    repeat refine ⟨by omega,?_⟩
    refine R.fE (k+1) ⟨by omega,yes (by rw [k1]; simp [iW,nT]; omega)⟩
  by_cases hE:57<c∧c<65
  ·skip
   have a1:decide ((c:Int)≥97)=false:=by first | exact abE (by omega) | exact abz (by omega)
   have a2:decide ((c:Int)≤122)=true:=by first | exact abE (by omega) | exact abz (by omega)
   have a3:decide ((c:Int)≥65)=false:=by first | exact abE (by omega) | exact abz (by omega)
   have a4:decide ((c:Int)≤90)=true:=by first | exact abE (by omega) | exact abz (by omega)
   have a5:decide ((c:Int)≥48)=true:=by first | exact abE (by omega) | exact abz (by omega)
   have a6:decide ((c:Int)≤57)=false:=by first | exact abE (by omega) | exact abz (by omega)
   have a7:((c:Int) == 95)=false:=by first | exact abE (by omega) | exact abz (by omega)
   cases k0:((k:Int) == 0) with
   | true=>
    have k1:(k == 0)=true:=by simp at k0 ⊢; omega
    rw [no (by rw [k1]; simp [iW]; omega)]
    apply ah; simp only [go_sem,↓reduceIte,e1,hget,hcc,a1,a3,a5,a6,a7,k0]
    repeat refine ⟨by omega,?_⟩
    refine R.rC ?_
    rfl
   | false=>
    have k1:(k == 0)=false:=by simp at k0 ⊢; omega
    rw [no (by rw [k1]; simp [iW,nT]; omega)]
    apply ah; simp only [go_sem,↓reduceIte,e1,hget,hcc,a1,a3,a5,a6,a7,k0]
    repeat refine ⟨by omega,?_⟩
    refine R.rC ?_
    rfl
  by_cases hN:48≤c∧c≤57
  ·skip
   have a1:decide ((c:Int)≥97)=false:=by first | exact abE (by omega) | exact abz (by omega)
   have a2:decide ((c:Int)≤122)=true:=by first | exact abE (by omega) | exact abz (by omega)
   have a3:decide ((c:Int)≥65)=false:=by first | exact abE (by omega) | exact abz (by omega)
   have a4:decide ((c:Int)≤90)=true:=by first | exact abE (by omega) | exact abz (by omega)
   have a5:decide ((c:Int)≥48)=true:=by first | exact abE (by omega) | exact abz (by omega)
   have a6:decide ((c:Int)≤57)=true:=by first | exact abE (by omega) | exact abz (by omega)
   have a7:((c:Int) == 95)=false:=by first | exact abE (by omega) | exact abz (by omega)
   cases k0:((k:Int) == 0) with
   | true=>
    have k1:(k == 0)=true:=by simp at k0 ⊢; omega
    rw [no (by rw [k1]; simp [iW]; omega)]
    apply ah; simp only [go_sem,↓reduceIte,e1,hget,hcc,a1,a3,a5,a6,k0]
    repeat refine ⟨by omega,?_⟩
    refine R.rC ?_
    rfl
   | false=>
    have k1:(k == 0)=false:=by simp at k0 ⊢; omega
    apply ah; simp only [go_sem,↓reduceIte,e1,hget,hcc,a1,a3,a5,a6,k0,wrapN (k:=k) (by omega)]
    repeat refine ⟨by omega,?_⟩
    refine R.fE (k+1) ⟨by omega,yes (by rw [k1]; simp [iW,nT]; omega)⟩
  by_cases hG:c<48
  ·skip
   have a1:decide ((c:Int)≥97)=false:=by first | exact abE (by omega) | exact abz (by omega)
   have a2:decide ((c:Int)≤122)=true:=by first | exact abE (by omega) | exact abz (by omega)
   have a3:decide ((c:Int)≥65)=false:=by first | exact abE (by omega) | exact abz (by omega)
   have a4:decide ((c:Int)≤90)=true:=by first | exact abE (by omega) | exact abz (by omega)
   have a5:decide ((c:Int)≥48)=false:=by first | exact abE (by omega) | exact abz (by omega)
   have a6:decide ((c:Int)≤57)=true:=by first | exact abE (by omega) | exact abz (by omega)
   have a7:((c:Int) == 95)=false:=by first | exact abE (by omega) | exact abz (by omega)
   cases k0:((k:Int) == 0) with
   | true=>
    have k1:(k == 0)=true:=by simp at k0 ⊢; omega
    rw [no (by rw [k1]; simp [iW]; omega)]
    apply ah; simp only [go_sem,↓reduceIte,e1,hget,hcc,a1,a3,a5,a7,k0]
    repeat refine ⟨by omega,?_⟩
    refine R.rC ?_
    rfl
   | false=>
    have k1:(k == 0)=false:=by simp at k0 ⊢; omega
    rw [no (by rw [k1]; simp [iW,nT]; omega)]
    apply ah; simp only [go_sem,↓reduceIte,e1,hget,hcc,a1,a3,a5,a7,k0]
    repeat refine ⟨by omega,?_⟩
    refine R.rC ?_
    rfl
  omega
 ·have e1:decide ((k:Int)<(s.size:Int))=false:=by simp; omega
  have:s.data.toList.drop k=[]:=adG (by omega)
  rw [this] at hinv
  have e:iT s=(decide ((s.size:Int)≥1)&&decide ((s.size:Int)≤24)):=by
   unfold iT; rw [hinv,qg,aj1]; congr 1
   ·simp only [asC]; omega
   ·simp only [asC]; omega
  rw [e]
  cases h1:decide ((s.size:Int)≥1) with
  | false=>
   (apply ah; simp only [go_sem,↓reduceIte,e1,h1])
   refine R.rC ?_
   rfl
  | true=>
   (apply ah; simp only [go_sem,↓reduceIte,e1,h1])
   refine R.rC ?_
   rfl
theorem Nv (k:Int):aA abo 233 [.pd (I k)] [B (decide (1≤k)&&decide (k≤4))]:=by
 refine aA.mk Tryz.func233 rfl ag1 (by simp [Tryz.ntmps233]) fun w G=>?_
 cases h:decide (1≤k) with
 | false=>
  have h0:decide (k≥1)=false:=h
  apply ah; simp only [go_sem,↓reduceIte,h0]
  refine R.rC ?_
  rfl
 | true=>
  have h0:decide (k≥1)=true:=h
  apply ah; simp only [go_sem,↓reduceIte,h0]
  refine R.rC ?_
  rfl
theorem TD {l:List Attr} {n:Nat} (h:∀ a∈l,okA a) (hn:l.length≤n):(eP l).length≤n * 2000001:=aj2 (Ie h) (aj3 _ hn)
theorem VD (t:bJ) (h:∀ a∈t.attrs,okA a) (hl:t.attrs.length≤12):aQ abo 232 [.pd (tq t)] [strs (eP t.attrs)]:=by
 refine aQ.mk Tryz.func232 rfl ag0 (by simp [Tryz.ntmps232]) fun w G=>?_
 refine aMD ?_
 refine R.fJ 3 3 9 1 (by (simp only [go_sem])) rfl rfl ?_
 simp only [go_sem]
 apply ah; simp only [go_sem]
 refine R.fU (fun (i:Nat) s=>St.lp [1,2] [(4,.pd (I i)),(3,.own 3)] [1] [] [] [(3,⟨9,1,(eP (t.attrs.take i)).map S⟩)] s) (fun (i:Nat)=>i≤t.attrs.length) (fun (i:Nat)=>t.attrs.length - i) (0) (by omega) ?_
 rintro i hi
 by_cases aZ:i<t.attrs.length
 ·have e1:decide ((i:Int)<(t.attrs.length:Int))=true:=by simp; omega
  have hsn:(eP (t.attrs.take (i+1))).map S=((eP (t.attrs.take i)).map S++[S t.attrs[i].name])++(t.attrs[i].was).map S:=by rw [abq aZ,LX,acC,acC]; rfl
  have hTl:((eP (t.attrs.take i)).map S).length≤24000012:=by
   have:=TD (l:=t.attrs.take i) (n:=12) (fun a ha=>h a (aou ha)) (by rw [ako]; omega)
   simpa using this
  have hwl:=(h _ (ab5 aZ)).2.1
  generalize (eP (t.attrs.take i)).map S=T at hsn hTl
  apply ah; simp only [go_sem,↓reduceIte,e1,getD_map,aZ]
  repeat refine ⟨by omega,?_⟩
  refine R.aY 1000000000000 16 rfl rfl (by (simp only [go_sem])) rfl rfl rfl rfl Az rfl Jo (by simp) (congrArg (ag6 adF) Jq) rfl Jp (by simp; omega) (by decide) (by decide) ?_
  apply ah; simp only [go_sem,↓reduceIte,getD_map,aZ]
  repeat refine ⟨by omega,?_⟩
  refine R.append (r:=⟨9,1,T++[S t.attrs[i].name]⟩) (es:=(t.attrs[i].was).map S) rfl rfl (aj (by (simp only [go_sem]))) rfl rfl rfl rfl Az rfl Jo (by simp) (congrArg (ag6 adF) Jq) rfl (fun j hj=>by rw [getD_map _ _ _ (by simpa using hj)]; rfl) (by show _ * kH abo 9≤_; rw [Jp]; simp only [ace,agU,apR]; omega) (by simp only [maxLen,ace,agU,apR]; omega) ?_
  apply ah; simp only [go_sem,↓reduceIte,wrapN (k:=i) (by omega)]
  refine R.fE (i+1) (by omega) (l:=by (simp only [go_sem,hsn]); all_goals (and_intros <;> rfl))
 ·have e1:decide ((i:Int)<(t.attrs.length:Int))=false:=by simp; omega
  have hke:t.attrs.take i=t.attrs:=abT (by omega)
  apply ah; simp only [go_sem,↓reduceIte,e1,hke]
  refine R.bP 3 rfl rfl ?_
  simp only [go_sem]
  refine R.rW ?_
  rfl
theorem YV (l:List bJ) (n:ByteArray):aA abo 160 [.pd (schema l),.pd (S n)] [I (jE (fun t=>eqS t.name n) l)]:=by
 refine aA.mk Tryz.func160 rfl ag2 (by simp [Tryz.ntmps160]) fun w G=>?_
 refine aMD ?_
 refine R.fU (fun (k:Nat) s=>St.lp [1,2] [(5,.pd (I k))] [2] [] [] [] s) (fun (k:Nat)=>k≤l.length∧(l.take k).any (fun t=>eqS t.name n)=false) (fun (k:Nat)=>l.length - k) (0) (⟨by omega,by simp⟩) ?_
 rintro k ⟨hk,hinv⟩
 by_cases hlt:k<l.length
 ·have e1:decide ((k:Int)<(l.length:Int))=true:=by simp; omega
  cases h:eqS l[k].name n with
  | true=>
   have e2:(l[k].name.toList == n.toList)=true:=h
   apply ah; simp only [go_sem,↓reduceIte,e1,getD_map,hlt,e2]
   repeat refine ⟨by omega,?_⟩
   refine R.rC ?_
   rw [jo hlt hinv h]; rfl
  | false=>
   have e2:(l[k].name.toList == n.toList)=false:=h
   apply ah; simp only [go_sem,↓reduceIte,e1,getD_map,hlt,e2]
   repeat refine ⟨by omega,?_⟩
   refine R.bound 8 (sz:=3) (ds:=l.map tq) rfl fun hl=>?_
   have hl:l.length≤9223372036854775807:=by simpa [maxLen] using hl
   apply ah; simp only [go_sem,wrapN (k:=k) (by omega)]
   refine R.fE (k+1) ⟨by omega,by rw [abq hlt,amO,hinv]; simpa using h⟩
 ·have e1:decide ((k:Int)<(l.length:Int))=false:=by simp; omega
  rw [abT (by omega)] at hinv
  apply ah; simp only [go_sem,↓reduceIte,e1]
  refine R.rC ?_
  rw [jL hinv]; rfl
theorem IU (a b:ByteArray):eqS a b=eqS b a:=by unfold eqS; rw [anA,aod,aod]; exact eq_comm
theorem Rh (t:bJ) (n:ByteArray) (hb:t.attrs.length≤1000000000) (hw:∀ a∈t.attrs,a.was.length≤1000000000):aA abo 279 [.pd (tq t),.pd (S n)] [I (kM t.attrs n)]:=by
 refine aA.mk Tryz.func279 rfl ag4 (by simp [Tryz.ntmps279]) fun w G=>?_
 refine aMD ?_
 generalize t.attrs=l at hb hw
 refine R.fU (fun (k:Nat) s=>St.lp [1,2] [(5,.pd (I k))] [2] [] [] [] s) (fun (k:Nat)=>k≤l.length∧(l.take k).any (fun t=>eqS t.name n)=false) (fun (k:Nat)=>l.length - k) (0) (⟨by omega,by simp⟩) ?_
 rintro k ⟨hk,hinv⟩
 by_cases hlt:k<l.length
 ·have e1:decide ((k:Int)<(l.length:Int))=true:=by simp; omega
  cases h:eqS l[k].name n with
  | true=>
   have e2:(l[k].name.toList == n.toList)=true:=h
   have hc:gy l n=(k:Int):=jo hlt hinv h
   have hT:kM l n=(k:Int):=by unfold kM; rw [hc,ab8 (by omega)]
   apply ah; simp only [go_sem,↓reduceIte,e1,getD_map,hlt,e2]
   repeat refine ⟨by omega,?_⟩
   refine R.rC ?_
   rw [hT]; rfl
  | false=>
   have e2:(l[k].name.toList == n.toList)=false:=h
   apply ah; simp only [go_sem,↓reduceIte,e1,getD_map,hlt,e2,wrapN (k:=k) (by omega)]
   repeat refine ⟨by omega,?_⟩
   refine R.fE (k+1) ⟨by omega,by rw [abq hlt,amO,hinv]; simpa using h⟩
 ·have e1:decide ((k:Int)<(l.length:Int))=false:=by simp; omega
  rw [abT (by omega)] at hinv
  have hc:gy l n = -1:=jL hinv
  have hT:kM l n=jE (fun t=>t.was.any fun t=>eqS n t) l:=by unfold kM; rw [hc,abQ (by omega)]
  apply ah; simp only [go_sem,↓reduceIte,e1]
  refine R.fU (fun (k:Nat) s=>St.lp [1,2] [(6,.pd (I k))] [2] [] [] [] s) (fun (k:Nat)=>k≤l.length∧(l.take k).any (fun t=>t.was.any fun t=>eqS n t)=false) (fun (k:Nat)=>l.length - k) (0) (⟨by omega,by simp⟩) ?_
  rintro k ⟨hk,zW⟩
  by_cases hlt:k<l.length
  ·have f1:decide ((k:Int)<(l.length:Int))=true:=by simp; omega
   have hwk:=hw _ (ab5 hlt)
   apply ah; simp only [go_sem,↓reduceIte,f1]
   refine R.fU (fun (m:Nat) s=>St.lp [1,2,6] [(7,.pd (I m))] [2] [] [] [] s) (fun (m:Nat)=>m≤l[k].was.length∧(l[k].was.take m).any (fun t=>eqS n t)=false) (fun (m:Nat)=>l[k].was.length - m) (0) (⟨by omega,by simp⟩) ?_
   rintro m ⟨hm,VE⟩
   by_cases hlm:m<l[k].was.length
   ·have g1:decide ((m:Int)<(l[k].was.length:Int))=true:=by simp; omega
    cases h:eqS l[k].was[m] n with
    | true=>
     have e2:(l[k].was[m].toList == n.toList)=true:=h
     have hany:(l[k].was.any fun t=>eqS n t)=true:=apr.2 ⟨_,ab5 hlm,by rw [IU]; exact h⟩
     apply ah; simp only [go_sem,↓reduceIte,g1,getD_map,hlt,hlm,e2]
     repeat refine ⟨by omega,?_⟩
     refine R.rC ?_
     rw [hT,jo hlt zW hany]; rfl
    | false=>
     have e2:(l[k].was[m].toList == n.toList)=false:=h
     apply ah; simp only [go_sem,↓reduceIte,g1,getD_map,hlt,hlm,e2,wrapN (k:=m) (by omega)]
     repeat refine ⟨by omega,?_⟩
     refine R.fE (m+1) ⟨by omega,by rw [abq hlm,amO,VE]; simpa [IU] using h⟩
   ·have g1:decide ((m:Int)<(l[k].was.length:Int))=false:=by simp; omega
    rw [abT (by omega)] at VE
    apply ah; simp only [go_sem,↓reduceIte,g1,getD_map,hlt,wrapN (k:=k) (by omega)]
    repeat refine ⟨by omega,?_⟩
    refine R.fE (k+1) ⟨by omega,by rw [abq hlt,amO,zW]; simpa using VE⟩
  ·have f1:decide ((k:Int)<(l.length:Int))=false:=by simp; omega
   rw [abT (by omega)] at zW
   apply ah; simp only [go_sem,↓reduceIte,f1]
   refine R.rC ?_
   rw [hT,jL zW]; rfl
theorem ag5:aG abo 159:=fun _ _=>by kernel_rfl
theorem ajM:aG abo 92:=fun _ _=>by kernel_rfl
theorem VF (t:bJ) (hb:tC t):aQ abo 159 [.pd (tq t)] [B (dH t)]:=by
 obtain ⟨h1,h2,h3,h4⟩:=hb
 refine aQ.mk Tryz.func159 rfl ag5 (by simp [Tryz.ntmps159]) fun w G=>?_
 refine aMD ?_
 refine R.kC (Nu t.name (by omega)) rfl rfl (.cons (.pd _) (.nil)) ?_
 cases hn:iT t.name with
 | false=>
  have hf:dH t=false:=by unfold dH; rw [hn]; simp
  refine aME ?_
  refine R.rW ?_
  rw [hf]; rfl
 | true=>
 by_cases ha:(t.attrs.length:Int)<1
 ·have d1:decide ((t.attrs.length:Int)<1)=true:=abE ha
  have hf:dH t=false:=by
   have:t.attrs=[]:=aks.1 (by omega)
   unfold dH; rw [this]; simp
  apply ah; simp only [go_sem,↓reduceIte,d1]
  refine R.rW ?_
  rw [hf]; rfl
 have d1:decide ((t.attrs.length:Int)<1)=false:=abz ha
 by_cases hm:(t.attrs.length:Int) > 12
 ·have d2:decide ((t.attrs.length:Int) > 12)=true:=abE hm
  have hf:dH t=false:=by
   have:¬ t.attrs.length≤12:=by omega
   unfold dH; rw [abz this]; simp
  apply ah; simp only [go_sem,↓reduceIte,d1,d2]
  refine R.rW ?_
  rw [hf]; rfl
 have d2:decide ((t.attrs.length:Int) > 12)=false:=abz hm
 by_cases hk:(t.key.length:Int)<1
 ·have d3:decide ((t.key.length:Int)<1)=true:=abE hk
  have hf:dH t=false:=by
   have:t.key=[]:=aks.1 (by omega)
   unfold dH; rw [this]; simp
  apply ah; simp only [go_sem,↓reduceIte,d1,d2,d3]
  refine R.rW ?_
  rw [hf]; rfl
 have d3:decide ((t.key.length:Int)<1)=false:=abz hk
 have h12:t.attrs.length≤12:=by omega
 have hall:∀ s∈eP t.attrs,s.size≤1000000000:=fun s hs=>LY h4 hs
 have hlen:(eP t.attrs).length≤24000012:=by have:=TD (n:=12) h4 h12; omega
 have hR:dH t=((eP t.attrs).all iT&&decide (eP t.attrs).Nodup&&t.attrs.all ng&&keysB t.attrs.length none t.key):=by
  have ea:t.attrs.isEmpty=false:=by cases h:t.attrs with
   | nil=>rw [h] at ha; simp at ha
   | cons _ _=>rfl
  have ek:t.key.isEmpty=false:=by cases h:t.key with
   | nil=>rw [h] at hk; simp at hk
   | cons _ _=>rfl
  unfold dH
  rw [hn,ea,ek,abE h12]
  cases t.attrs.all ng <;> cases (eP t.attrs).all iT <;> cases decide (eP t.attrs).Nodup <;> simp
 apply ah; simp only [go_sem,↓reduceIte,d1,d2,d3]
 refine R.kW (VD t h4 h12) rfl rfl (.cons (.pd _) (.nil)) ?_
 generalize eP t.attrs=L at hall hlen hR
 refine aME ?_
 refine R.fU (fun (i:Nat) s=>St.lp [1,3] [(4,.pd (I i))] [1] [] [] [] s) (fun (i:Nat)=>i≤L.length∧(L.take i).all iT=true∧(L.take i).Nodup) (fun (i:Nat)=>L.length - i) (0) (⟨by omega,by simp,by simp⟩) ?_
 rintro i ⟨hi,hnm,hnd⟩
 by_cases aZ:i<L.length
 ·have e1:decide ((i:Int)<(L.length:Int))=true:=by simp; omega
  apply ah; simp only [go_sem,↓reduceIte,e1,getD_map,aZ]
  repeat refine ⟨by omega,?_⟩
  refine R.kC (Nu L[i] (by have:=hall _ (ab5 aZ); omega)) rfl rfl (.cons (.pd _) (.nil)) ?_
  cases hni:iT L[i] with
  | false=>
   have hf:dH t=false:=by
    have:L.all iT=false:=apd.2 ⟨_,ab5 aZ,by simp [hni]⟩
    rw [hR,this]; rfl
   refine aME ?_
   refine R.rW ?_
   rw [hf]; rfl
  | true=>
   (refine aME ?_)
   refine R.fU (fun (k:Nat) s=>St.lp [1,3,4] [(5,.pd (I k))] [1] [] [] [] s) (fun (k:Nat)=>k≤i∧∀ m (h:m<L.length),m<k→L[m]≠L[i]) (fun (k:Nat)=>i - k) (0) (⟨by omega,by intros; omega⟩) ?_
   rintro k ⟨hk2,hne⟩
   by_cases hlk:k<i
   ·have f1:decide ((k:Int)<(i:Int))=true:=by simp; omega
    have hkL:k<L.length:=by omega
    apply ah; simp only [go_sem,↓reduceIte,f1]
    cases hq:eqS L[k] L[i] with
    | true=>
     have e2:(L[k].toList == L[i].toList)=true:=hq
     have hf:dH t=false:=by
      have:¬ L.Nodup:=fun hn=>(ajZ.1 hn k i hkL aZ hlk) ((nY _ _).1 hq)
      rw [hR,abz this]; simp
     refine R.aO 8 80 mixed (by decide +kernel) ?_; simp only [go_sem,getD_map,hkL,aZ]
     repeat refine ⟨by omega,?_⟩
     apply ah; simp only [go_sem,↓reduceIte,e2]
     refine R.rW ?_
     rw [hf]; rfl
    | false=>
     have e2:(L[k].toList == L[i].toList)=false:=hq
     refine R.aO 8 80 mixed (by decide +kernel) ?_; simp only [go_sem,getD_map,hkL,aZ]
     repeat refine ⟨by omega,?_⟩
     apply ah; simp only [go_sem,↓reduceIte,e2,wrapN (k:=k) (by omega)]
     refine R.fE (k+1) ⟨by omega,fun m h hm=>?_⟩
     rcases aky m k with c | c
     ·exact hne m h c
     ·obtain rfl:m=k:=by omega
      exact fun e=>by rw [(nY _ _).2 e] at hq; cases hq
   ·have f1:decide ((k:Int)<(i:Int))=false:=by simp; omega
    have hsn:L.take (i+1)=L.take i++[L[i]]:=abq aZ
    apply ah; simp only [go_sem,↓reduceIte,f1,wrapN (k:=i) (by omega)]
    refine R.fE (i+1) ⟨by omega,by rw [hsn,aqf,hnm]; simp [hni],?_⟩
    rw [hsn,amJ]
    refine ⟨hnd,by simp,fun a ha b hb=>?_⟩
    obtain ⟨m,hm,rfl⟩:=agY ha
    rw [ako] at hm
    rw [ao9,adJ.1 hb]
    exact hne m (by omega) (by omega)
 ·have e1:decide ((i:Int)<(L.length:Int))=false:=by simp; omega
  rw [abT (by omega)] at hnm hnd
  rw [hnm,abE hnd,aj1,aj1] at hR
  apply ah; simp only [go_sem,↓reduceIte,e1]
  refine R.fU (fun (i:Nat) s=>St.lp [1] [(6,.pd (I i))] [1] [] [] [] s) (fun (i:Nat)=>i≤t.attrs.length∧dH t=((t.attrs.drop i).all ng&&keysB t.attrs.length none t.key)) (fun (i:Nat)=>t.attrs.length - i) (0) (⟨by omega,by simpa using hR⟩) ?_
  rintro i ⟨hi,hR2⟩
  by_cases aZ:i<t.attrs.length
  ·have e1:decide ((i:Int)<(t.attrs.length:Int))=true:=by simp; omega
   rw [jk aZ] at hR2
   apply ah; simp only [go_sem,↓reduceIte,e1]
   cases hkd:(decide (1≤t.attrs[i].kind)&&decide (t.attrs[i].kind≤4)) with
   | false=>
    have hf:dH t=false:=by rw [hR2]; unfold ng; rw [hkd]; rfl
    refine R.aO 21 80 mixed (by decide +kernel) ?_; simp only [go_sem,getD_map,aZ]
    repeat refine ⟨by omega,?_⟩
    refine RY.kC (Nv t.attrs[i].kind) rfl rfl (.cons (.pd _) (.nil)) ?_
    rw [hkd]
    (refine aH 80 _ _ ?_; simp only [go_sem,getD_map,aZ])
    repeat refine ⟨by omega,?_⟩
    refine aME ?_
    refine R.rW ?_
    rw [hf]; rfl
   | true=>
    have hok:ng t.attrs[i]=pU t.attrs[i].kind t.attrs[i].dflt:=by unfold ng; rw [hkd]; rfl
    refine R.aO 21 80 mixed (by decide +kernel) ?_; simp only [go_sem,getD_map,aZ]
    repeat refine ⟨by omega,?_⟩
    refine RY.kC (Nv t.attrs[i].kind) rfl rfl (.cons (.pd _) (.nil)) ?_
    rw [hkd]
    (refine aH 80 _ _ ?_; simp only [go_sem,getD_map,aZ])
    repeat refine ⟨by omega,?_⟩
    refine R.fD (rs:=[B (pU t.attrs[i].kind t.attrs[i].dflt)]) rfl rfl rfl rfl (fun _=>⟨by simp [iQ,Op.operands,Call.operands,aW,St.get,lk,SV.unbox],.cons (.pd _) (.cons (.pd _) .nil),Qq t.attrs[i].kind t.attrs[i].dflt⟩) (by simp [plain,PD.plain]) (by (simp only [go_sem])) ?_
    refine R.gQ 86 (by (simp only [go_sem])) rfl (by simp [dN]) ?_
    simp only [go_sem]
    rw [hok] at hR2
    cases hft:pU t.attrs[i].kind t.attrs[i].dflt with
    | false=>
     rw [hft,akb,akb] at hR2
     refine aME ?_
     refine R.rW ?_
     rw [hR2]; rfl
    | true=>
     rw [hft,aj1] at hR2
     apply ah; simp only [go_sem,↓reduceIte,wrapN (k:=i) (by omega)]
     refine R.fE (i+1) ⟨by omega,hR2⟩
  ·have e1:decide ((i:Int)<(t.attrs.length:Int))=false:=by simp; omega
   rw [adG (by omega),List.all_nil,aj1] at hR2
   apply ah; simp only [go_sem,↓reduceIte,e1]
   generalize t.key=key at hR2 h3 ⊢
   generalize hn:t.attrs.length=n at hR2 h12 ⊢
   refine R.fU (fun (k:Nat) s=>St.lp [1] [(7,.pd (I k))] [1] [] [] [] s) (fun (k:Nat)=>k≤key.length∧dH t=keysB n (if k=0 then none else some (key.getD (k - 1) 0)) (key.drop k)) (fun (k:Nat)=>key.length - k) (0) (⟨by omega,by simpa using hR2⟩) ?_
   rintro k ⟨hk,hinv⟩
   by_cases hlt:k<key.length
   ·have e1:decide ((k:Int)<(key.length:Int))=true:=by simp; omega
    rw [drop_cons hlt,Jy] at hinv
    have hgk:key.getD k 0=key[k]:=by simp [hlt]
    apply ah; simp only [go_sem,↓reduceIte,e1]
    by_cases c1:key[k]<0
    ·have hz:dH t=false:=by
      rw [hinv]; have:¬ 0≤key[k]:=by omega
      simp [this]
     have d1:decide (key[k]<0)=true:=abE c1
     rw [hz]
     refine R.aO 32 8 mixed (by decide +kernel) ?_
     simp only [go_sem,getD_map,hlt,d1]
     repeat refine ⟨by omega,?_⟩
     refine aH 8 _ _ ?_
     simp only [go_sem,getD_map,hlt,hn]
     repeat refine ⟨by omega,?_⟩
     refine aH 4 _ _ ?_
     simp only [go_sem]
     repeat refine ⟨by omega,?_⟩
     refine RY.skip rfl rfl (.inl (.inl rfl)) (by (simp only [go_sem])) ?_
     simp only [go_sem]
     repeat (refine RY.skip rfl rfl (.inr rfl) (by (simp only [go_sem])) ?_; (simp only [go_sem]))
     (refine aH 80 _ _ ?_; simp only [go_sem])
     refine aME ?_
     refine R.rW ?_
     rfl
    have d1:decide (key[k]<0)=false:=abz c1
    by_cases c2:key[k]≥(n:Int)
    ·have hz:dH t=false:=by
      rw [hinv]; have:¬ key[k]<(n:Int):=by omega
      simp [this]
     have d2:decide (key[k]≥(n:Int))=true:=abE c2
     rw [hz]
     refine R.aO 32 8 mixed (by decide +kernel) ?_
     simp only [go_sem,getD_map,hlt,d1]
     repeat refine ⟨by omega,?_⟩
     refine aH 8 _ _ ?_
     simp only [go_sem,getD_map,hlt,hn,d2]
     repeat refine ⟨by omega,?_⟩
     refine aH 4 _ _ ?_
     simp only [go_sem]
     repeat refine ⟨by omega,?_⟩
     refine RY.skip rfl rfl (.inl (.inl rfl)) (by (simp only [go_sem])) ?_
     simp only [go_sem]
     repeat (refine RY.skip rfl rfl (.inr rfl) (by (simp only [go_sem])) ?_; (simp only [go_sem]))
     (refine aH 80 _ _ ?_; simp only [go_sem])
     refine aME ?_
     refine R.rW ?_
     rfl
    have d2:decide (key[k]≥(n:Int))=false:=abz c2
    have hpos:0≤key[k]:=by omega
    have hup:key[k]<(n:Int):=by omega
    rw [abE hpos,abE hup] at hinv
    by_cases c3:k=0
    ·subst c3
     have d3:decide (((0:Nat):Int) > 0)=false:=by decide
     refine R.aO 32 8 mixed (by decide +kernel) ?_
     simp only [go_sem,getD_map,hlt,d1]
     repeat refine ⟨by omega,?_⟩
     refine aH 8 _ _ ?_
     simp only [go_sem,getD_map,hlt,d2,hn]
     repeat refine ⟨by omega,?_⟩
     refine aH 8 _ _ ?_
     simp only [go_sem,d3]
     repeat refine ⟨by omega,?_⟩
     refine aH 8 _ _ ?_
     simp only [go_sem,getD_map,hlt]
     repeat refine ⟨by omega,?_⟩
     (refine aH 80 _ _ ?_; simp only [go_sem])
     repeat refine ⟨by omega,?_⟩
     refine R.gQ 116 (by (simp only [go_sem])) rfl (by simp []) ?_
     simp only [go_sem]
     apply ah; simp only [go_sem,↓reduceIte,wrapN (k:=0) (by omega)]
     refine R.fE (0+1) ⟨by omega,by rw [hinv]; simp [hlt]⟩
    obtain ⟨j,rfl⟩:∃ j,k=j+1:=⟨k - 1,by omega⟩
    have hj:j<key.length:=by omega
    have d3:decide (((j+1:Nat):Int) > 0)=true:=by apply abE; omega
    have hw:IntKind.i64.wrap (((j+1:Nat):Int) - 1)=(j:Int):=by rw [wrap64 (by omega) (by omega)]; omega
    have hgj:key.getD j 0=key[j]:=by simp [hj]
    simp only [arR,hgj,abQ (Nat.succ_ne_zero j)] at hinv
    by_cases c4:key[j+1]≤key[j]
    ·have hz:dH t=false:=by
      rw [hinv]; have:¬ key[j]<key[j+1]:=by omega
      simp [this]
     rw [hz]
     have d4:decide (key[j+1]≤key[j])=true:=abE c4
     refine R.aO 32 8 mixed (by decide +kernel) ?_
     simp only [go_sem,getD_map,hlt,d1]
     repeat refine ⟨by omega,?_⟩
     refine aH 8 _ _ ?_
     simp only [go_sem,getD_map,hlt,d2,hn]
     repeat refine ⟨by omega,?_⟩
     refine aH 8 _ _ ?_
     simp only [go_sem,d3]
     repeat refine ⟨by omega,?_⟩
     refine aH 8 _ _ ?_
     simp only [go_sem,getD_map,hlt,hj,hw]
     repeat refine ⟨by omega,?_⟩
     (refine aH 80 _ _ ?_; simp only [go_sem])
     repeat refine ⟨by omega,?_⟩
     refine R.gQ 116 (by (simp only [go_sem])) rfl (by simp []) ?_
     simp only [go_sem]
     refine R.gQ 121 (by (simp only [go_sem])) rfl (by simp []) ?_
     simp only [go_sem]
     refine R.gQ 127 (by (simp only [go_sem])) rfl (by simp []) ?_
     simp only [go_sem]
     apply ah; simp only [go_sem,↓reduceIte,d4]
     refine R.rW ?_
     rfl
    ·have d4:decide (key[j+1]≤key[j])=false:=abz c4
     have h5:key[j]<key[j+1]:=by omega
     rw [abE h5] at hinv
     refine R.aO 32 8 mixed (by decide +kernel) ?_
     simp only [go_sem,getD_map,hlt,d1]
     repeat refine ⟨by omega,?_⟩
     refine aH 8 _ _ ?_
     simp only [go_sem,getD_map,hlt,d2,hn]
     repeat refine ⟨by omega,?_⟩
     refine aH 8 _ _ ?_
     simp only [go_sem,d3]
     repeat refine ⟨by omega,?_⟩
     refine aH 8 _ _ ?_
     simp only [go_sem,getD_map,hlt,hj,hw]
     repeat refine ⟨by omega,?_⟩
     (refine aH 80 _ _ ?_; simp only [go_sem])
     repeat refine ⟨by omega,?_⟩
     refine R.gQ 116 (by (simp only [go_sem])) rfl (by simp []) ?_
     simp only [go_sem]
     refine R.gQ 121 (by (simp only [go_sem])) rfl (by simp []) ?_
     simp only [go_sem]
     refine R.gQ 127 (by (simp only [go_sem])) rfl (by simp []) ?_
     simp only [go_sem]
     apply ah; simp only [go_sem,↓reduceIte,d4,wrapN (k:=j+1) (by omega)]
     refine R.fE (j+1+1) ⟨by omega,by rw [hinv]; simp [hlt]⟩
   ·have e1:decide ((k:Int)<(key.length:Int))=false:=by simp; omega
    rw [adG (by omega),LW] at hinv
    rw [hinv]
    apply ah; simp only [go_sem,↓reduceIte,e1]
    refine R.rW ?_
    rfl
theorem Ri (l:List bJ) (hb:∀ t∈l,tC t):aQ abo 92 [.pd (schema l)] [B (gW l)]:=by
 refine aQ.mk Tryz.func92 rfl ajM (by simp [Tryz.ntmps92]) fun w G=>?_
 by_cases h20:(l.length:Int) > 20
 ·have d0:decide ((l.length:Int) > 20)=true:=abE h20
  have hf:gW l=false:=by
   have:¬ l.length≤20:=by omega
   unfold gW; rw [abz this]; rfl
  apply ah; simp only [go_sem,↓reduceIte,d0]
  refine R.rW ?_
  rw [hf]; rfl
 have d0:decide ((l.length:Int) > 20)=false:=abz h20
 have alV:l.length≤20:=by omega
 have hR:gW l=(l.zipIdx).all (lJ l):=by unfold gW; rw [abE alV]; rfl
 apply ah; simp only [go_sem,↓reduceIte,d0]
 refine R.fU (fun (k:Nat) s=>St.lp [1] [(3,.pd (I k))] [1] [] [] [] s) (fun (k:Nat)=>k≤l.length∧gW l=((l.zipIdx).drop k).all (lJ l)) (fun (k:Nat)=>l.length - k) (0) (⟨by omega,by simpa using hR⟩) ?_
 rintro k ⟨hk,hinv⟩
 by_cases hlt:k<l.length
 ·have e1:decide ((k:Int)<(l.length:Int))=true:=by simp; omega
  have hbk:=hb l[k] (ab5 hlt)
  have hz:k<l.zipIdx.length:=by simpa using hlt
  rw [jk hz] at hinv
  simp only [aoE,akF] at hinv
  have hT:lJ l (l[k],k)=(dH l[k]&&decide (jE (fun t=>eqS t.name l[k].name) l=(k:Int))):=rfl
  rw [hT] at hinv
  apply ah; simp only [go_sem,↓reduceIte,e1]
  refine R.aO 17 80 mixed (by decide +kernel) ?_; simp only [go_sem,getD_map,hlt]
  repeat refine ⟨by omega,?_⟩
  refine RY.kW (VF l[k] hbk) rfl rfl (.cons (.pd _) (.nil)) ?_
  cases hr:dH l[k] with
  | false=>
   rw [hr,akb,akb] at hinv
   (refine aH 80 _ _ ?_; simp only [go_sem,getD_map,hlt])
   repeat refine ⟨by omega,?_⟩
   refine RY.fD (args:=[]) (b:=false) (rs:=[I 0]) rfl rfl rfl rfl (fun h=>by cases h) (by simp [plain,PD.plain]) (by (simp only [go_sem])) ?_
   (refine aH 80 _ _ ?_; simp only [go_sem])
   refine aME ?_
   refine R.rW ?_
   rw [hinv]; rfl
  | true=>
   rw [hr,aj1] at hinv
   (refine aH 80 _ _ ?_; simp only [go_sem,getD_map,hlt])
   repeat refine ⟨by omega,?_⟩
   refine RY.fD (rs:=[I (jE (fun t:bJ=>eqS t.name l[k].name) l)]) rfl rfl rfl rfl (fun _=>⟨by simp [iQ,Op.operands,Call.operands,aW,St.get,lk,SV.unbox],.cons (.pd _) (.cons (.pd _) .nil),YV l l[k].name⟩) (by simp [plain,PD.plain]) (by (simp only [go_sem])) ?_
   generalize jE (fun t:bJ=>eqS t.name l[k].name) l=x at hinv ⊢
   cases hx:(x == (k:Int)) with
   | true=>
    have e3:(x != (k:Int))=false:=by unfold bne; rw [hx]; rfl
    have e4:decide (x=(k:Int))=true:=hx
    rw [e4,aj1] at hinv
    (refine aH 80 _ _ ?_; simp only [go_sem])
    refine R.gQ 30 (by (simp only [go_sem])) rfl (by simp []) ?_
    simp only [go_sem]
    refine R.gQ 31 (by (simp only [go_sem])) rfl (by simp) ?_
    simp only [go_sem]
    apply ah; simp only [go_sem,↓reduceIte,e3,wrapN (k:=k) (by omega)]
    refine R.fE (k+1) ⟨by omega,hinv⟩
   | false=>
    have e3:(x != (k:Int))=true:=by unfold bne; rw [hx]; rfl
    have e4:decide (x=(k:Int))=false:=hx
    rw [e4,akb] at hinv
    (refine aH 80 _ _ ?_; simp only [go_sem])
    refine R.gQ 30 (by (simp only [go_sem])) rfl (by simp []) ?_
    simp only [go_sem]
    refine R.gQ 31 (by (simp only [go_sem])) rfl (by simp) ?_
    simp only [go_sem]
    apply ah; simp only [go_sem,↓reduceIte,e3]
    refine R.rW ?_
    rw [hinv]; rfl
 ·have e1:decide ((k:Int)<(l.length:Int))=false:=by simp; omega
  rw [adG (by simp; omega)] at hinv
  apply ah; simp only [go_sem,↓reduceIte,e1]
  refine R.rW ?_
  rw [hinv]; rfl
theorem ag7:aG abo 280:=fun _ _=>by kernel_rfl
theorem ag8:aG abo 235:=fun _ _=>by kernel_rfl
theorem ag9:aG abo 236:=fun _ _=>by kernel_rfl
theorem aha:aG abo 237:=fun _ _=>by kernel_rfl
theorem ahb:aG abo 238:=fun _ _=>by kernel_rfl
theorem Nw (x:Side) (n:Int):aA abo 280 [.pd (side x),.pd (I n)] [B (lZ x n)]:=by
 refine aA.mk Tryz.func280 rfl ag7 (by simp [Tryz.ntmps280]) fun w G=>?_
 (refine bK [(14,.of (oN x.val))] 120 _ _ ?_; simp only [go_sem,gX,↓reduceIte,agk,PD.raw.injEq,Value.bool.injEq,Tryz.results280,Go.au.dR])
 repeat' (refine BK (fun _=>?_) (fun _=>?_))
 all_goals (try simp_all [lZ,zeroV]) <;> (intros; omega)
theorem jI (a b:List Attr):aA abo 236 [.pd (attrs a),.pd (attrs b)] [B (bG a b)]:=by
 refine aA.mk Tryz.func236 rfl ag9 (by simp [Tryz.ntmps236]) fun w G=>?_
 refine R.bound 0 (sz:=6) (ds:=a.map attr) rfl fun hl=>?_
 have hl:a.length≤9223372036854775807:=by simpa [maxLen] using hl
 by_cases h0:a.length=b.length
 ·have e0:((a.length:Int) != (b.length:Int))=false:=by simp [h0]
  have hf:bG a b=(a.zip b).all fun p=>fZ p.1 p.2:=by unfold bG; rw [abE h0]; rfl
  apply ah; simp only [go_sem,↓reduceIte,e0]
  refine R.fU (fun (k:Nat) s=>St.lp [0,1] [(5,.pd (I k))] [] [] [] [] s) (fun (k:Nat)=>k≤a.length∧bG a b=((a.zip b).drop k).all fun p=>fZ p.1 p.2) (fun (k:Nat)=>a.length - k) (0) (⟨by omega,by simpa using hf⟩) ?_
  rintro k ⟨hk,hinv⟩
  by_cases hlt:k<a.length
  ·have e1:decide ((k:Int)<(a.length:Int))=true:=by simp; omega
   have hlb:k<b.length:=by omega
   have hz:k<(a.zip b).length:=by simp; omega
   rw [jk hz,aoL] at hinv
   apply ah; simp only [go_sem,↓reduceIte,e1]
   cases h1:(a[k].name.toList == b[k].name.toList) with
   | false=>
    have e2:(a[k].name.toList == b[k].name.toList)=false:=h1
    have hA:fZ a[k] b[k]=false:=by unfold fZ eqS; rw [h1]; rfl
    rw [hA,akb] at hinv
    refine R.aO 22 80 mixed (by decide +kernel) ?_; simp only [go_sem,getD_map,hlt,hlb,e2]
    repeat refine ⟨by omega,?_⟩
    refine aME ?_
    refine R.rC ?_
    rw [hinv]; rfl
   | true=>
    have e2:(a[k].name.toList == b[k].name.toList)=true:=h1
    cases h3:(a[k].kind == b[k].kind) with
    | false=>
     have e3:(a[k].kind != b[k].kind)=true:=by unfold bne; rw [h3]; rfl
     have hA:fZ a[k] b[k]=false:=by unfold fZ eqS; rw [h1,h3]; rfl
     rw [hA,akb] at hinv
     refine R.aO 22 80 mixed (by decide +kernel) ?_; simp only [go_sem,getD_map,hlt,hlb,e2]
     repeat refine ⟨by omega,?_⟩
     refine R.gQ 33 (by (simp only [go_sem])) rfl (by simp []) ?_
     simp only [go_sem]
     refine R.gQ 38 (by (simp only [go_sem])) rfl (by simp []) ?_
     simp only [go_sem]
     apply ah; simp only [go_sem,↓reduceIte,e3]
     refine R.rC ?_
     rw [hinv]; rfl
    | true=>
     have e3:(a[k].kind != b[k].kind)=false:=by unfold bne; rw [h3]; rfl
     have hA:fZ a[k] b[k]=true:=by unfold fZ eqS; rw [h1,h3]; rfl
     rw [hA,aj1] at hinv
     refine R.aO 22 80 mixed (by decide +kernel) ?_; simp only [go_sem,getD_map,hlt,hlb,e2]
     repeat refine ⟨by omega,?_⟩
     refine R.gQ 33 (by (simp only [go_sem])) rfl (by simp []) ?_
     simp only [go_sem]
     refine R.gQ 38 (by (simp only [go_sem])) rfl (by simp []) ?_
     simp only [go_sem]
     apply ah; simp only [go_sem,↓reduceIte,e3,wrapN (k:=k) (by omega)]
     refine R.fE (k+1) ⟨by omega,hinv⟩
  ·have e1:decide ((k:Int)<(a.length:Int))=false:=by simp; omega
   rw [adG (by simp; omega)] at hinv
   apply ah; simp only [go_sem,↓reduceIte,e1]
   refine R.rC ?_
   rw [hinv]; rfl
 ·have e0:((a.length:Int) != (b.length:Int))=true:=by simp; omega
  have hf:bG a b=false:=by unfold bG; rw [abz h0]; rfl
  apply ah; simp only [go_sem,↓reduceIte,e0]
  refine R.rC ?_
  rw [hf]; rfl
def l9 (cs:List Int) (n:Int):Bool:=cs.all fun c=>decide (0≤c)&&decide (c<n)
theorem zN (cs:List Int) (n:Int):aA abo 237 [.pd (ints cs),.pd (I n)] [B (l9 cs n)]:=by
 refine aA.mk Tryz.func237 rfl aha (by simp [Tryz.ntmps237]) fun w G=>?_
 refine R.bound 0 (sz:=1) (ds:=cs.map I) rfl fun hl=>?_
 have hl:cs.length≤9223372036854775807:=by simpa [maxLen] using hl
 refine aMD ?_
 refine R.fU (fun (k:Nat) s=>St.lp [0,1] [(5,.pd (I k))] [] [] [] [] s) (fun (k:Nat)=>k≤cs.length∧l9 cs n=l9 (cs.drop k) n) (fun (k:Nat)=>cs.length - k) (0) (⟨by omega,by simp⟩) ?_
 rintro k ⟨hk,hinv⟩
 by_cases hlt:k<cs.length
 ·have e1:decide ((k:Int)<(cs.length:Int))=true:=by simp; omega
  unfold l9 at hinv
  rw [jk hlt] at hinv
  by_cases h1:cs[k]<0
  ·have e2:decide (cs[k]<0)=true:=abE h1
   have e4:decide (0≤cs[k])=false:=abz (by omega)
   rw [e4] at hinv
   apply ah; simp only [go_sem,↓reduceIte,e1,getD_map,hlt,e2]
   repeat refine ⟨by omega,?_⟩
   refine R.rC ?_
   unfold l9; rw [hinv]; rfl
  ·have e2:decide (cs[k]<0)=false:=abz h1
   have e4:decide (0≤cs[k])=true:=abE (by omega)
   by_cases h3:cs[k]≥n
   ·have e3:decide (cs[k]≥n)=true:=abE h3
    have e5:decide (cs[k]<n)=false:=abz (by omega)
    rw [e4,e5] at hinv
    apply ah; simp only [go_sem,↓reduceIte,e1,getD_map,hlt,e2,e3]
    repeat refine ⟨by omega,?_⟩
    refine R.rC ?_
    unfold l9; rw [hinv]; rfl
   ·have e3:decide (cs[k]≥n)=false:=abz h3
    have e5:decide (cs[k]<n)=true:=abE (by omega)
    rw [e4,e5] at hinv
    apply ah; simp only [go_sem,↓reduceIte,e1,getD_map,hlt,e2,e3,wrapN (k:=k) (by omega)]
    repeat refine ⟨by omega,?_⟩
    refine R.fE (k+1) ⟨by omega,by unfold l9; rw [hinv]; rfl⟩
 ·have e1:decide ((k:Int)<(cs.length:Int))=false:=by simp; omega
  rw [adG (by omega)] at hinv
  apply ah; simp only [go_sem,↓reduceIte,e1]
  refine R.rC ?_
  rw [hinv]; rfl
theorem IV {α:Type} (l:List α):∀ cs:List Int,(dO l cs).isSome=l9 cs l.length
 | []=>rfl
 | c::cs=>by
  have ih:=IV l cs
  unfold l9 at ih ⊢
  rw [List.all_cons,← ih]
  simp only [dO]
  by_cases h:0≤c∧c.toNat<l.length
  ·rw [an5 h,abE h.1,abE (by omega:c<(l.length:Int))]
   cases dO l cs <;> rfl
  ·rw [apO h]
   by_cases h0:0≤c
   ·rw [abE h0,abz (by omega:¬ c<(l.length:Int))]; rfl
   ·rw [abz h0]; rfl
def gu (l:List Attr) (cs:List Int):List Attr:=cs.map fun c=>l.getD c.toNat ⟨ByteArray.empty,0,[],V.zero⟩
theorem Bh (l:List Attr):∀ cs:List Int,l9 cs l.length=true→dO l cs=some (gu l cs)
 | [],_=>rfl
 | c::cs,h=>by
  unfold l9 at h
  simp only [List.all_cons,aj0,ame] at h
  obtain ⟨⟨h0,h1⟩,h2⟩:=h
  have hc:c.toNat<l.length:=by omega
  have ih:=Bh l cs h2
  simp only [dO]
  rw [an5 ⟨h0,hc⟩,ih]
  simp [gu,hc]
theorem Ny (l:List Attr) (cs:List Int) (h:l9 cs l.length=true) (hc:cs.length≤1000000000):aQ abo 238 [.pd (attrs l),.pd (ints cs)] [attrs (gu l cs)]:=by
 refine aQ.mk Tryz.func238 rfl ahb (by simp [Tryz.ntmps238]) fun w G=>?_
 refine aMD ?_
 refine R.fJ 5 5 84 6 (by (simp only [go_sem])) rfl rfl ?_
 simp only [go_sem]
 apply ah; simp only [go_sem]
 refine R.fU (fun (k:Nat) s=>St.lp [0,1,4] [(6,.pd (I k)),(5,.own 5)] [] [] [] [(5,⟨84,6,(gu l (cs.take k)).map attr⟩)] s) (fun (k:Nat)=>k≤cs.length) (fun (k:Nat)=>cs.length - k) (0) (by omega) ?_
 rintro k hk
 by_cases hlt:k<cs.length
 ·have e1:decide ((k:Int)<(cs.length:Int))=true:=by simp; omega
  unfold l9 at h
  rw [agi] at h
  have hck:=h _ (ab5 hlt)
  simp only [aj0,ame] at hck
  have hcast:((cs[k].toNat:Nat):Int)=cs[k]:=an7 hck.1
  have hq:cs[k].toNat<l.length:=by omega
  have hsn:gu l (cs.take (k+1))=gu l (cs.take k)++[l[cs[k].toNat]]:=by
   unfold gu
   rw [abq hlt,acC]
   congr 1
   simp [hq]
  have hpl:(gu l (cs.take k)).length≤k:=by simp [gu]; omega
  generalize hqq:cs[k].toNat=q at hcast hq hsn
  apply ah; simp only [go_sem,↓reduceIte,e1,getD_map,hlt,← hcast,hq]
  repeat refine ⟨by omega,?_⟩
  refine R.aY 1000000000 80 rfl rfl (by (simp only [go_sem])) rfl rfl rfl rfl sl28 rfl su (by simp) (congrArg (ag6 adF) sD) rfl uK (by simp; omega) (by decide) (by decide) ?_
  apply ah; simp only [go_sem,↓reduceIte,wrapN (k:=k) (by omega)]
  refine R.fE (k+1) (by omega) (l:=by (simp only [go_sem,hsn,acC]); all_goals (and_intros <;> rfl))
 ·have e1:decide ((k:Int)<(cs.length:Int))=false:=by simp; omega
  have hke:cs.take k=cs:=abT (by omega)
  apply ah; simp only [go_sem,↓reduceIte,e1,hke]
  refine R.bP 5 rfl rfl ?_
  simp only [go_sem]
  refine R.rW ?_
  rfl
theorem abd {x y:Side} {n:Int} (hx:lZ x n=true) (hy:lZ y n=true):decide (IntKind.i64.wrap (x.var+y.var) > -2)=(decide (x.var=0) || decide (y.var=0)):=by
 have h:∀ z:Side,lZ z n=true→z.var = -1∨z.var=0:=fun z hz=>by
  unfold lZ at hz
  split at hz
  ·left; assumption
  ·right
   simp only [aj0,ame] at hz
   exact hz.1.1.1
 rcases h x hx with a | a <;> rcases h y hy with b | b <;> simp [a,b] <;> decide
end Go.Proofs.Z
end
