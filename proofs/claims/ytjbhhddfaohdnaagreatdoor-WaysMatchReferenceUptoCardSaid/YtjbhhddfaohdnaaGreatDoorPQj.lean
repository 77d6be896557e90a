/- A part of the proof. -/
import Derived.Test.YtjbhhddfaohdnaaGreatDoorPRw
set_option linter.all false
set_option linter.deprecated false
open Function renaming comp→anK
open Go.Call renaming operands→agt
open Go.Proofs.Tryz renaming prog→abo,results167→avF,results166→as4
open Go.Value.bool renaming injEq→akp
open Int renaming reduceEq→akD
open List renaming length→adF,take_zero→aoI,map→am9,length_cons→agX,length_nil→aj7,zip_cons_cons→aog,zip_nil_left→asi,contains_nil→ao8,nil_append→akd,getElem_cons_succ→amx,drop_length→avn,flatMap_map→avo
open Nat renaming reduceAdd→ami
open Option renaming map→ag6,map_some→amg
section
namespace Go.Proofs.Z
open Go Go.au Go.Proofs
set_option maxRecDepth 10000
set_option maxHeartbeats 4000000
theorem ajA:aG abo 15:=fun _ _=>by kernel_rfl
theorem ajB:aG abo 19:=fun _ _=>by kernel_rfl
theorem ajC:aG abo 21:=fun _ _=>by kernel_rfl
theorem ajD:aG abo 47:=fun _ _=>by kernel_rfl
theorem ajE:aG abo 64:=fun _ _=>by kernel_rfl
theorem ajF:aG abo 99:=fun _ _=>by kernel_rfl
theorem agH:aG abo 102:=fun _ _=>by kernel_rfl
theorem Vm (a:List V):aA abo 64 [.pd (vals a),.pd (vals a)] [B true]:=by
 refine aA.mk Tryz.func64 rfl ajE (by simp [Tryz.ntmps64]) fun w G=>?_
 refine R.bound 0 (sz:=3) (ds:=a.map val) rfl fun hl=>?_
 have hl:a.length≤9223372036854775807:=by simpa [maxLen] using hl
 have e0:((a.length:Int) != (a.length:Int))=false:=by simp
 apply ah; simp only [go_sem,↓reduceIte,e0]
 refine R.fU (fun (k:Nat) s=>St.lp [0,1] [(5,.pd (I k))] [] [] [] [] s) (fun (k:Nat)=>k≤a.length) (fun (k:Nat)=>a.length - k) (0) (by omega) ?_
 rintro k hk
 by_cases hlt:k<a.length
 ·have e1:decide ((k:Int)<(a.length:Int))=true:=by simp; omega
  have n1:(a[k].kind == a[k].kind)=true:=by simp
  have n2:(a[k].n == a[k].n)=true:=by simp
  have n3:(a[k].text == a[k].text)=true:=by rw [beq_toListBytes]; simp
  apply ah; simp only [go_sem,↓reduceIte,e1]
  refine R.aO 8 80 mixed (by decide +kernel) ?_; simp only [go_sem,getD_map,hlt]
  repeat refine ⟨by omega,?_⟩
  apply ah; simp only [go_sem,↓reduceIte,n3,wrapN (k:=k) (by omega)]
  refine R.fE (k+1) (by omega)
 ·have e1:decide ((k:Int)<(a.length:Int))=false:=by simp; omega
  apply ah; simp only [go_sem,↓reduceIte,e1]
  refine R.rC ?_
  rfl
theorem Hf (l:List (List V)):aA abo 19 [.pd (NU l),.pd (NU l)] [B true]:=by
 refine aA.mk Tryz.func19 rfl ajB (by simp [Tryz.ntmps19]) fun w G=>?_
 refine R.bound 0 (sz:=1) (ds:=l.map vals) rfl fun hl=>?_
 have hl:l.length≤9223372036854775807:=by simpa [maxLen] using hl
 have e0:((l.length:Int) != (l.length:Int))=false:=by simp
 apply ah; simp only [go_sem,↓reduceIte,e0]
 refine R.fU (fun (k:Nat) s=>St.lp [0,1] [(5,.pd (I k))] [] [] [] [] s) (fun (k:Nat)=>k≤l.length) (fun (k:Nat)=>l.length - k) (0) (by omega) ?_
 rintro k hk
 by_cases hlt:k<l.length
 ·have e1:decide ((k:Int)<(l.length:Int))=true:=by simp; omega
  apply ah; simp only [go_sem,↓reduceIte,e1]
  refine R.aO 8 80 mixed (by decide +kernel) ?_; simp only [go_sem,getD_map,hlt]
  repeat refine ⟨by omega,?_⟩
  refine R.kC (Vm l[k]) rfl rfl (.cons (.pd _) (.cons (.pd _) (.nil))) ?_
  apply ah; simp only [go_sem,↓reduceIte,wrapN (k:=k) (by omega)]
  refine R.fE (k+1) (by omega)
 ·have e1:decide ((k:Int)<(l.length:Int))=false:=by simp; omega
  apply ah; simp only [go_sem,↓reduceIte,e1]
  refine R.rC ?_
  rfl
theorem Cb (l:List Ans):aA abo 15 [.pd (bT l),.pd (bT l)] [B true]:=by
 refine aA.mk Tryz.func15 rfl ajA (by simp [Tryz.ntmps15]) fun w G=>?_
 refine R.bound 0 (sz:=2) (ds:=l.map ans) rfl fun hl=>?_
 have hl:l.length≤9223372036854775807:=by simpa [maxLen] using hl
 have e0:((l.length:Int) != (l.length:Int))=false:=by simp
 apply ah; simp only [go_sem,↓reduceIte,e0]
 refine R.fU (fun (k:Nat) s=>St.lp [0,1] [(5,.pd (I k))] [] [] [] [] s) (fun (k:Nat)=>k≤l.length) (fun (k:Nat)=>l.length - k) (0) (by omega) ?_
 rintro k hk
 by_cases hlt:k<l.length
 ·have e1:decide ((k:Int)<(l.length:Int))=true:=by simp; omega
  have c0:(dw l[k].row l[k].row != 0)=false:=by simp [(jc.eq l[k].row l[k].row).2 rfl]
  apply ah; simp only [go_sem,↓reduceIte,e1]
  refine R.aO 23 80 mixed (by decide +kernel) ?_; simp only [go_sem,getD_map,hlt]
  repeat refine ⟨by omega,?_⟩
  refine RY.kC (La l[k].row l[k].row) rfl rfl (.cons (.pd _) (.cons (.pd _) (.nil))) ?_
  (refine aH 80 _ _ ?_; simp only [go_sem,c0,getD_map,hlt])
  repeat refine ⟨by omega,?_⟩
  refine R.fD (rs:=[B (decide (l[k].ways=l[k].ways))]) rfl rfl rfl rfl (fun _=>⟨by simp [iQ,Op.operands,agt,aW,St.get,lk,SV.unbox],.cons (.pd _) (.cons (.pd _) .nil),pG l[k].ways l[k].ways⟩) (by simp [plain,PD.plain]) (by (simp only [go_sem])) ?_
  rw [abE rfl]
  refine R.gQ 40 (by (simp only [go_sem])) rfl (by simp [dN]) ?_
  simp only [go_sem]
  apply ah; simp only [go_sem,↓reduceIte,wrapN (k:=k) (by omega)]
  refine R.fE (k+1) (by omega)
 ·have e1:decide ((k:Int)<(l.length:Int))=false:=by simp; omega
  apply ah; simp only [go_sem,↓reduceIte,e1]
  refine R.rC ?_
  rfl
theorem Nj (l:List Ans) (set:List Int) (hlen:l.length≤1000000000):aQ abo 21 [.pd (bT l),.pd (ints set)] [NU (kG l set)]:=by
 refine aQ.mk Tryz.func21 rfl ajC (by simp [Tryz.ntmps21]) fun w G=>?_
 refine aMD ?_
 refine R.fJ 5 5 37 1 (by (simp only [go_sem])) rfl rfl ?_
 simp only [go_sem]
 apply ah; simp only [go_sem]
 refine R.fU (fun (k:Nat) s=>St.lp [0,1,4,28] [(6,.pd (I k)),(5,.own 5)] [] [] [] [(5,⟨37,1,(kG (l.take k) set).map vals⟩)] s) (fun (k:Nat)=>k≤l.length) (fun (k:Nat)=>l.length - k) (0) (by omega) ?_
 rintro k hk
 by_cases hlt:k<l.length
 ·have e1:decide ((k:Int)<(l.length:Int))=true:=by simp; omega
  have hrl:(kG (l.take k) set).length≤k:=by
   unfold kG; rw [ace]
   exact aj2 (anw _ _) (by simp; omega)
  have hsn:kG (l.take (k+1)) set=kG (l.take k) set++(if l[k].ways.any (fF set)=true then [l[k].row] else []):=by
   rw [abq hlt]
   unfold kG
   rw [anV,acC]
   congr 1
   by_cases h:l[k].ways.any (fF set)=true <;> simp [h]
  apply ah; simp only [go_sem,↓reduceIte,e1,getD_map,hlt]
  repeat refine ⟨by omega,?_⟩
  refine R.kC (acT l[k].ways set) rfl rfl (.cons (.pd _) (.cons (.pd _) (.nil))) ?_
  cases h:l[k].ways.any (fF set) with
  | true=>
   rw [h,ab8 rfl] at hsn
   apply ah; simp only [go_sem,↓reduceIte,getD_map,hlt]
   repeat refine ⟨by omega,?_⟩
   refine R.aY 1000000000000 24 rfl rfl (by (simp only [go_sem])) rfl rfl rfl rfl Zy rfl Zq (by simp) (congrArg (ag6 adF) Zt) rfl Zr (by simp; omega) (by decide) (by decide) ?_
   apply ah; simp only [go_sem,↓reduceIte,wrapN (k:=k) (by omega)]
   refine R.fE (k+1) (by omega) (l:=by (simp only [go_sem,hsn,acC]); all_goals (and_intros <;> rfl))
  | false=>
   rw [h,abQ (by simp),akw] at hsn
   apply ah; simp only [go_sem,↓reduceIte,wrapN (k:=k) (by omega)]
   refine R.fE (k+1) (by omega) (l:=by (simp only [go_sem,hsn]); all_goals (and_intros <;> rfl))
 ·have e1:decide ((k:Int)<(l.length:Int))=false:=by simp; omega
  have hke:l.take k=l:=abT (by omega)
  apply ah; simp only [go_sem,↓reduceIte,e1,hke]
  refine R.bP 5 rfl rfl ?_
  simp only [go_sem]
  refine R.rW ?_
  rfl
theorem ady (p:Plan):grp p=(p.kids.any grp || p.kind == 8):=by
 rw [O4 p]; exact Bool.or_comm ..
theorem Hg:∀ (n:Nat) (p:Plan),SizeOf.sizeOf p≤n→aA abo 47 [.pd (plan p)] [B (grp p)]
 | 0,p,h=>by cases p; simp at h
 | n+1,p,h=>by
  have ih:∀ x∈p.kids,aA abo 47 [.pd (plan x)] [B (grp x)]:=fun x hx=>Hg n x (by have:=Gh hx; omega)
  have he:=ady p
  rw [aF p]
  refine aA.mk Tryz.func47 rfl ajD (by simp [Tryz.ntmps47]) fun w G=>?_
  generalize hks:p.kids=ks at ih he
  refine aMF ?_
  refine R.fU (fun (k:Nat) s=>St.lp [1,17,18,19] [(3,.pd (I k))] [1] [] [] [] s) (fun (k:Nat)=>k≤ks.length∧grp p=((ks.drop k).any grp || p.kind == 8)) (fun (k:Nat)=>ks.length - k) (0) (⟨by omega,by simpa using he⟩) ?_
  rintro k ⟨hk,hinv⟩
  by_cases hlt:k<ks.length
  ·have e1:decide ((k:Int)<(ks.length:Int))=true:=by simp; omega
   rw [D7 hlt] at hinv
   apply ah; simp only [go_sem,↓reduceIte,e1,getD_map,hlt,kY,mZ]
   repeat refine ⟨by omega,?_⟩
   refine R.bound 6 (sz:=8) (ds:=ks.map plan) rfl fun hl=>?_
   have hl:ks.length≤9223372036854775807:=by simpa [maxLen] using hl
   refine R.kC (ih ks[k] (ab5 hlt)) rfl rfl (.cons (.pd _) (.nil)) ?_
   cases hn:grp ks[k] with
   | true=>
    rw [hn] at hinv
    refine aME ?_
    refine R.rC ?_
    rw [hinv]; rfl
   | false=>
    rw [hn] at hinv
    apply ah; simp only [go_sem,↓reduceIte,wrapN (k:=k) (by omega)]
    refine R.fE (k+1) ⟨by omega,by simpa using hinv⟩
  ·have e1:decide ((k:Int)<(ks.length:Int))=false:=by simp; omega
   rw [adG (by omega)] at hinv
   apply ah; simp only [go_sem,↓reduceIte,e1]
   refine R.rC ?_
   rw [hinv]; rfl
theorem Qp (p:Plan):aA abo 47 [.pd (plan p)] [B (grp p)]:=Hg _ p (agM _)
def J7 (o:Option Nat):Int:=match o with | some k=>k | none=>-1
theorem aa0 {l:List Ans} {row:List V} {k:Nat} (h:k<l.length) (hno:∀ m (h:m<l.length),m<k→dw l[m].row row≠0):dw l[k].row row=0→atR l row=some k:=fun h0=>by
 unfold atR
 rw [akB]
 exact ⟨h,by simpa using h0,fun j hj=>by simpa using hno j (by omega) hj⟩
theorem acB (l:List Ans) (row:List V):aA abo 99 [.pd (bT l),.pd (vals row)] [I (J7 (atR l row))]:=by
 refine aA.mk Tryz.func99 rfl ajF (by simp [Tryz.ntmps99]) fun w G=>?_
 refine R.bound 0 (sz:=2) (ds:=l.map ans) rfl fun hl=>?_
 have hl:l.length≤9223372036854775807:=by simpa [maxLen] using hl
 refine aMD ?_
 refine R.fU (fun (k:Nat) s=>St.lp [0,1] [(5,.pd (I k))] [] [] [] [] s) (fun (k:Nat)=>k≤l.length∧∀ m (h:m<l.length),m<k→dw l[m].row row≠0) (fun (k:Nat)=>l.length - k) (0) (⟨by omega,by intros; omega⟩) ?_
 rintro k ⟨hk,hinv⟩
 by_cases hlt:k<l.length
 ·have e1:decide ((k:Int)<(l.length:Int))=true:=by simp; omega
  apply ah; simp only [go_sem,↓reduceIte,e1,getD_map,hlt]
  repeat refine ⟨by omega,?_⟩
  refine R.kC (La l[k].row row) rfl rfl (.cons (.pd _) (.cons (.pd _) (.nil))) ?_
  by_cases h0:dw l[k].row row=0
  ·have e2:(dw l[k].row row == 0)=true:=by simpa using h0
   apply ah; simp only [go_sem,↓reduceIte,e2]
   refine R.rC ?_
   rw [aa0 hlt hinv h0]; rfl
  ·have e2:(dw l[k].row row == 0)=false:=by simpa using h0
   apply ah; simp only [go_sem,↓reduceIte,e2,wrapN (k:=k) (by omega)]
   refine R.fE (k+1) ⟨by omega,fun m h hm=>?_⟩
   rcases aky m k with c | c
   ·exact hinv m h c
   ·obtain rfl:m=k:=by omega
    exact h0
 ·have e1:decide ((k:Int)<(l.length:Int))=false:=by simp; omega
  have hn:atR l row=none:=by
   unfold atR
   rw [apj]
   intro a ha
   obtain ⟨m,hm,rfl⟩:=agY ha
   simpa using hinv m hm (by omega)
  apply ah; simp only [go_sem,↓reduceIte,e1]
  refine R.rC ?_
  rw [hn]; rfl
def wG (l:List Ans):Bool:=decide (l.length≤1000)&&l.all fun a=>decide (a.ways.length≤400)
theorem sN (l:List Ans):aA abo 102 [.pd (bT l)] [B (wG l)]:=by
 refine aA.mk Tryz.func102 rfl agH (by simp [Tryz.ntmps102]) fun w G=>?_
 refine R.bound 0 (sz:=2) (ds:=l.map ans) rfl fun hl=>?_
 have hl:l.length≤9223372036854775807:=by simpa [maxLen] using hl
 by_cases h0:l.length≤1000
 ·have e0:decide ((l.length:Int) > 1000)=false:=by simp; omega
  have hf:wG l=l.all fun a=>decide (a.ways.length≤400):=by unfold wG; rw [abE h0]; rfl
  apply ah; simp only [go_sem,↓reduceIte,e0]
  refine R.fU (fun (k:Nat) s=>St.lp [0] [(3,.pd (I k))] [] [] [] [] s) (fun (k:Nat)=>k≤l.length∧wG l=(l.drop k).all fun a=>decide (a.ways.length≤400)) (fun (k:Nat)=>l.length - k) (0) (⟨by omega,by simpa using hf⟩) ?_
  rintro k ⟨hk,hinv⟩
  by_cases hlt:k<l.length
  ·have e1:decide ((k:Int)<(l.length:Int))=true:=by simp; omega
   rw [jk hlt] at hinv
   by_cases h1:l[k].ways.length≤400
   ·have e2:decide ((l[k].ways.length:Int) > 400)=false:=by simp; omega
    rw [abE h1,aj1] at hinv
    apply ah; simp only [go_sem,↓reduceIte,e1,getD_map,hlt,e2,wrapN (k:=k) (by omega)]
    repeat refine ⟨by omega,?_⟩
    refine R.fE (k+1) ⟨by omega,hinv⟩
   ·have e2:decide ((l[k].ways.length:Int) > 400)=true:=by simp; omega
    rw [abz h1,akb] at hinv
    apply ah; simp only [go_sem,↓reduceIte,e1,getD_map,hlt,e2]
    repeat refine ⟨by omega,?_⟩
    refine R.rC ?_
    rw [hinv]; rfl
  ·have e1:decide ((k:Int)<(l.length:Int))=false:=by simp; omega
   rw [adG (by omega)] at hinv
   apply ah; simp only [go_sem,↓reduceIte,e1]
   refine R.rC ?_
   rw [hinv]; rfl
 ·have e0:decide ((l.length:Int) > 1000)=true:=by simp; omega
  have hf:wG l=false:=by unfold wG; rw [abz h0]; rfl
  apply ah; simp only [go_sem,↓reduceIte,e0]
  refine R.rC ?_
  rw [hf]; rfl
theorem ajG:aG abo 46:=fun _ _=>by kernel_rfl
theorem ajH:aG abo 94:=fun _ _=>by kernel_rfl
theorem ajI:aG abo 95:=fun _ _=>by kernel_rfl
theorem ajJ:aG abo 96:=fun _ _=>by kernel_rfl
theorem ajK:aG abo 97:=fun _ _=>by kernel_rfl
theorem agI:aG abo 163:=fun _ _=>by kernel_rfl
theorem agJ:aG abo 165:=fun _ _=>by kernel_rfl
theorem agK:aG abo 166:=fun _ _=>by kernel_rfl
theorem agL:aG abo 167:=fun _ _=>by kernel_rfl
theorem oN (v:V):aA abo 165 [.pd (val v)] [B (dF v)]:=by
 refine aA.mk Tryz.func165 rfl agJ (by simp [Tryz.ntmps165]) fun w G=>?_
 (refine bK [] 120 _ _ ?_; simp only [go_sem,gX,↓reduceIte,agk,PD.raw.injEq,akp,Tryz.results165,Go.au.dR,toList_nil])
 repeat' (refine BK (fun _=>?_) (fun _=>?_))
 all_goals (simp_all [dF,zo])
 all_goals first | done | omega | (congr 1; omega) | skip
theorem Qq (kind:Int) (v:V):aA abo 94 [.pd (I kind),.pd (val v)] [B (pU kind v)]:=by
 refine aA.mk Tryz.func94 rfl ajH (by simp [Tryz.ntmps94]) fun w G=>?_
 (refine bK [(6,.of (oN v))] 120 _ _ ?_; simp only [go_sem,gX,↓reduceIte,agk,PD.raw.injEq,akp,Tryz.results94,Go.au.dR])
 unfold pU
 cases dF v <;> cases (v.kind == 0) <;> simp
theorem YF (t:bJ) (row:List V):aA abo 46 [.pd (tq t),.pd (vals row)] [B (fitsV t.attrs row)]:=by
 refine aA.mk Tryz.func46 rfl ajG (by simp [Tryz.ntmps46]) fun w G=>?_
 refine R.bound 1 (sz:=3) (ds:=row.map val) rfl fun hl=>?_
 have hl:row.length≤9223372036854775807:=by simpa [maxLen] using hl
 by_cases h0:row.length=t.attrs.length
 ·have e0:((row.length:Int) != (t.attrs.length:Int))=false:=by simp [h0]
  have hf:fitsV t.attrs row=(t.attrs.zip row).all fun p=>pU p.1.kind p.2:=by unfold fitsV; rw [abE h0]; rfl
  apply ah; simp only [go_sem,↓reduceIte,e0]
  refine R.fU (fun (k:Nat) s=>St.lp [1,2] [(5,.pd (I k))] [2] [] [] [] s) (fun (k:Nat)=>k≤row.length∧fitsV t.attrs row=((t.attrs.zip row).drop k).all fun p=>pU p.1.kind p.2) (fun (k:Nat)=>row.length - k) (0) (⟨by omega,by simpa using hf⟩) ?_
  rintro k ⟨hk,hinv⟩
  by_cases hlt:k<row.length
  ·have e1:decide ((k:Int)<(row.length:Int))=true:=by simp; omega
   have hla:k<t.attrs.length:=by omega
   have hz:k<(t.attrs.zip row).length:=by simp; omega
   rw [jk hz,aoL] at hinv
   apply ah; simp only [go_sem,↓reduceIte,e1]
   refine R.aO 10 80 mixed (by decide +kernel) ?_; simp only [go_sem,getD_map,hlt,hla]
   repeat refine ⟨by omega,?_⟩
   refine R.kC (Qq t.attrs[k].kind row[k]) rfl rfl (.cons (.pd _) (.cons (.pd _) (.nil))) ?_
   cases h:pU t.attrs[k].kind row[k] with
   | true=>
    rw [h,aj1] at hinv
    apply ah; simp only [go_sem,↓reduceIte,wrapN (k:=k) (by omega)]
    refine R.fE (k+1) ⟨by omega,hinv⟩
   | false=>
    rw [h,akb] at hinv
    refine aME ?_
    refine R.rC ?_
    rw [hinv]; rfl
  ·have e1:decide ((k:Int)<(row.length:Int))=false:=by simp; omega
   rw [adG (by simp; omega)] at hinv
   apply ah; simp only [go_sem,↓reduceIte,e1]
   refine R.rC ?_
   rw [hinv]; rfl
 ·have e0:((row.length:Int) != (t.attrs.length:Int))=true:=by simp; omega
  have hf:fitsV t.attrs row=false:=by unfold fitsV; rw [abz h0]; rfl
  apply ah; simp only [go_sem,↓reduceIte,e0]
  refine R.rC ?_
  rw [hf]; rfl
theorem J8 (s:Side) (row:List V) (h:nX row s):aA abo 167 [.pd (side s),.pd (vals row)] [val (l7 row s)]:=by
 refine aA.mk Tryz.func167 rfl agL (by simp [Tryz.ntmps167]) fun w G=>?_
 refine aMD ?_
 refine ⟨fun h1=>?_,fun h1=>?_⟩
 ·have h1:s.var = -1:=by simpa using h1
  refine aMD ?_
  refine R.rC ?_
  simp only [go_sem,avF,l7,ab8 h1]
  try rfl
 ·have h1:¬ s.var = -1:=by simpa using h1
  obtain ⟨h2,h3⟩:0≤s.col∧s.col.toNat<row.length:=by
   rcases h with h | h
   ·exact (h1 h).elim
   ·exact h
  have hcast:((s.col.toNat:Nat):Int)=s.col:=an7 h2
  have hx:l7 row s=row[s.col.toNat]:=by simp [l7,h1,h3]
  rw [hx]
  generalize s.col.toNat=q at hcast h3
  rw [← hcast]
  apply aC; simp only [go_sem,getD_map,h3]
  repeat refine ⟨by omega,?_⟩
  refine R.rC ?_
  simp only [go_sem,avF]
  try rfl
theorem opT (op c:Int) (d:Bool) (h:xA op c=d):if (op == 1)=true then (c == 0)=d else if (op == 2)=true then (c != 0)=d else if (op == 3)=true then decide (c<0)=d else if (op == 4)=true then decide (c≤0)=d else false=d:=by
 subst h
 unfold xA
 by_cases h1:op=1
 ·simp [h1]
 ·by_cases h2:op=2
  ·simp [h2]
  ·by_cases h3:op=3
   ·simp [h3]
   ·by_cases h4:op=4
    ·simp [h4]
    ·simp [h1,h2,h3,h4]
theorem aa1 (x y:Int):bI (x - y) 0=bI x y:=by
 unfold bI
 by_cases h1:x<y
 ·rw [ab8 h1,ab8 (by omega)]
 ·rw [abQ h1,abQ (by omega)]
  by_cases h2:x > y
  ·rw [ab8 h2,ab8 (by omega)]
  ·rw [abQ h2,abQ (by omega)]
theorem Nk {v:V} (h:dF v=true) (hk:v.kind≠1):v.text.data.toList=[]:=by
 unfold dF at h
 by_cases c:v.text.size=0
 ·have:v.text.data.toList.length=0:=by rw [Array.length_toList]; exact c
  exact anT this
 ·rw [ab8 ⟨hk,c⟩] at h; cases h
theorem YH {a b:V} (ha:dF a=true) (hb:dF b=true) (ka:a.kind=4) (kb:b.kind=4):nI a b=bI (a.n - b.n) 0:=by
 have ta:=Nk ha (by omega)
 have tb:=Nk hb (by omega)
 rw [aa1]
 unfold nI
 rw [ka,kb,oq,abQ (by simp)]
 by_cases h:bI a.n b.n=0
 ·rw [abQ (by simp [h]),h]
  unfold uO iH
  rw [ta,tb]; simp
 ·rw [ab8 h]
theorem Nl (a:V) (op:Int) (b:V) (add:Int):aA abo 166 [.pd (val a),.pd (I op),.pd (val b),.pd (I add)] [B (iy a op b add)]:=by
 refine aA.mk Tryz.func166 rfl agK (by simp [Tryz.ntmps166]) fun w G=>?_
 cases ha:dF a with
 | false=>
  (refine bK [(11,.of (oN a))] 120 _ _ ?_; simp only [go_sem,gX,↓reduceIte,agk,PD.raw.injEq,akp,as4,Go.au.dR,ha])
  simp [iy,ha]
 | true=>
  cases hb:dF b with
  | false=>
   (refine bK [(11,.of (oN a)),(15,.of (oN b))] 120 _ _ ?_; simp only [go_sem,gX,↓reduceIte,agk,PD.raw.injEq,akp,as4,Go.au.dR,ha,hb])
   simp [iy,hb]
  | true=>
   have h1:=Dz ha
   have h2:=Dz hb
   have hwr:IntKind.i64.wrap (a.n - b.n)=a.n - b.n:=wrap64 (by omega) (by omega)
   (refine bK [(11,.of (oN a)),(15,.of (oN b)),(48,.of (BZ (a.n - b.n) add)),(54,.of (Tn a b))] 120 _ _ ?_; simp only [go_sem,gX,↓reduceIte,agk,PD.raw.injEq,akp,as4,Go.au.dR,ha,hb,hwr])
   by_cases hk:a.kind=b.kind
   ·have hk':(a.kind != b.kind)=false:=by simp [hk]
    have hT:iy a op b add=if a.kind=2∨a.kind=3 then xA op (bI (a.n - b.n) add) else if a.kind=1∨a.kind=4 then (if add≠0 then false else xA op (nI a b)) else false:=by
     unfold iy; rw [ha,hb,hk',abQ (by simp)]
    rw [ab8 hk']
    by_cases k0:a.kind=0
    ·rw [ab8 (by simp [k0]),hT]; simp [k0]
    ·rw [abQ (by simp [k0])]
     by_cases k23:a.kind=2∨a.kind=3
     ·rw [ab8 k23] at hT
      have e3:(a.kind == 1)=false:=by rcases k23 with h | h <;> simp [h]
      have ho:=opT op _ _ hT.symm
      rw [e3]
      rcases k23 with h | h <;> simp only [h,Int.reduceBNe,akC,aku,akl,ite_self] <;> exact ho
     ·have n2:(a.kind != 2)=true:=by simp; omega
      have n3:(a.kind != 3)=true:=by simp; omega
      rw [abQ k23] at hT
      rw [n2,n3,ab8 rfl,ab8 rfl]
      by_cases k14:a.kind=1∨a.kind=4
      ·rw [ab8 k14] at hT
       by_cases hadd:add=0
       ·rw [abQ (by simp [hadd])] at hT
        rw [abQ (by simp [hadd])]
        have ho:=opT op _ _ hT.symm
        rcases k14 with h | h
        ·rw [ab8 (by simp [h])]; exact ho
        ·rw [abQ (by simp [h]),hadd]
         rw [YH ha hb h (by omega),hadd] at ho; exact ho
       ·rw [ab8 hadd] at hT
        rw [ab8 (by simp [hadd]),hT]
      ·exfalso
       unfold dF at ha
       split at ha
       ·cases ha
       ·first | rw [abQ k0,abQ (by omega),abQ (by omega),abQ (by omega),abQ (by omega)] at ha | rw [abQ (by omega),abQ (by omega),abQ (by omega),abQ (by omega)] at ha
        cases ha
   ·have hk':(a.kind != b.kind)=true:=by simp [hk]
    rw [abQ (by simp [hk])]
    unfold iy
    rw [hk',ha,hb]; rfl
theorem Vo (l:List vK) (row:List V) (h:∀ t∈l,nX row t.left∧nX row t.right):aA abo 95 [.pd (qp l),.pd (vals row)] [B (!l.any fun t=>!DU row t)]:=by
 refine aA.mk Tryz.func95 rfl ajI (by simp [Tryz.ntmps95]) fun w G=>?_
 refine R.bound 0 (sz:=12) (ds:=l.map tst) rfl fun hl=>?_
 have hl:l.length≤9223372036854775807:=by simpa [maxLen] using hl
 refine aMD ?_
 refine R.fU (fun (k:Nat) s=>St.lp [0,1] [(5,.pd (I k))] [] [] [] [] s) (fun (k:Nat)=>k≤l.length∧(l.any fun t=>!DU row t)=(l.drop k).any fun t=>!DU row t) (fun (k:Nat)=>l.length - k) (0) (⟨by omega,by simp⟩) ?_
 rintro k ⟨hk,hinv⟩
 by_cases hlt:k<l.length
 ·have e1:decide ((k:Int)<(l.length:Int))=true:=by simp; omega
  obtain ⟨o1,o2⟩:=h _ (ab5 hlt)
  rw [D7 hlt] at hinv
  apply ah; simp only [go_sem,↓reduceIte,e1]
  refine R.aO 24 80 mixed (by decide +kernel) ?_; simp only [go_sem,getD_map,hlt]
  repeat refine ⟨by omega,?_⟩
  refine RY.kC (J8 l[k].left row o1) rfl rfl (.cons (.pd _) (.cons (.pd _) (.nil))) ?_
  (refine aH 80 _ _ ?_; simp only [go_sem,getD_map,hlt])
  repeat refine ⟨by omega,?_⟩
  refine RY.kC (J8 l[k].right row o2) rfl rfl (.cons (.pd _) (.cons (.pd _) (.nil))) ?_
  (refine aH 80 _ _ ?_; simp only [go_sem,getD_map,hlt])
  repeat refine ⟨by omega,?_⟩
  refine R.kC (Nl (l7 row l[k].left) l[k].op (l7 row l[k].right) l[k].add) rfl rfl (.cons (.pd _) (.cons (.pd _) (.cons (.pd _) (.cons (.pd _) (.nil))))) ?_
  cases ht:DU row l[k] with
  | true=>
   have ht2:iy (l7 row l[k].left) l[k].op (l7 row l[k].right) l[k].add=true:=ht
   rw [ht] at hinv
   rw [ht2]
   apply ah; simp only [go_sem,↓reduceIte,wrapN (k:=k) (by omega)]
   refine R.fE (k+1) ⟨by omega,by simpa using hinv⟩
  | false=>
   have ht2:iy (l7 row l[k].left) l[k].op (l7 row l[k].right) l[k].add=false:=ht
   rw [ht] at hinv
   rw [ht2]
   refine aME ?_
   refine R.rC ?_
   rw [hinv]; rfl
 ·have e1:decide ((k:Int)<(l.length:Int))=false:=by simp; omega
  rw [adG (by omega)] at hinv
  apply ah; simp only [go_sem,↓reduceIte,e1]
  refine R.rC ?_
  rw [hinv]; rfl
theorem Q5 (row:List V) (cols:List Int) (hl:cols.length≤1000000000) (hc:∀ c∈cols,0≤c∧c.toNat<row.length):aQ abo 96 [.pd (vals row),.pd (ints cols)] [vals (lD row cols)]:=by
 refine aQ.mk Tryz.func96 rfl ajJ (by simp [Tryz.ntmps96]) fun w G=>?_
 refine aMD ?_
 refine R.fJ 5 5 76 3 (by (simp only [go_sem])) rfl rfl ?_
 simp only [go_sem]
 apply ah; simp only [go_sem]
 refine R.fU (fun (k:Nat) s=>St.lp [0,1,4,23] [(6,.pd (I k)),(5,.own 5)] [] [] [] [(5,⟨76,3,(lD row (cols.take k)).map val⟩)] s) (fun (k:Nat)=>k≤cols.length) (fun (k:Nat)=>cols.length - k) (0) (by omega) ?_
 rintro k hk
 by_cases hlt:k<cols.length
 ·have e1:decide ((k:Int)<(cols.length:Int))=true:=by simp; omega
  have hck:=hc _ (ab5 hlt)
  have hcast:((cols[k].toNat:Nat):Int)=cols[k]:=an7 hck.1
  have hq:=hck.2
  have hsn:lD row (cols.take (k+1))=lD row (cols.take k)++[row[cols[k].toNat]]:=by
   unfold lD
   rw [abq hlt,acC]
   congr 1
   simp [hq]
  have hpl:(lD row (cols.take k)).length≤k:=by simp [lD]; omega
  generalize hqq:cols[k].toNat=q at hcast hq hsn
  apply ah; simp only [go_sem,↓reduceIte,e1,getD_map,hlt,← hcast,hq]
  repeat refine ⟨by omega,?_⟩
  refine R.aY 1000000000 32 rfl rfl (by (simp only [go_sem])) rfl rfl rfl rfl Dt rfl Dv (by simp) (congrArg (ag6 adF) Dw) rfl H6 (by simp; omega) (by decide) (by decide) ?_
  apply ah; simp only [go_sem,↓reduceIte,wrapN (k:=k) (by omega)]
  refine R.fE (k+1) (by omega) (l:=by (simp only [go_sem,hsn,acC]); all_goals (and_intros <;> rfl))
 ·have e1:decide ((k:Int)<(cols.length:Int))=false:=by simp; omega
  have hke:cols.take k=cols:=abT (by omega)
  apply ah; simp only [go_sem,↓reduceIte,e1,hke]
  refine R.bP 5 rfl rfl ?_
  simp only [go_sem]
  refine R.rW ?_
  rfl
theorem Ak (l:List Attr) (n:ByteArray):gy l n=match nN l n with | some k=>(k:Int) | none=>-1:=by
 unfold gy jE nN
 congr 1
 have:(fun t:Attr=>eqS t.name n)=fun t=>decide (t.name=n):=by
  funext t
  rw [anA,nY,ame]
 rw [this]
theorem Ba (l:List Attr) (n:ByteArray):aA abo 163 [.pd (attrs l),.pd (S n)] [I (gy l n)]:=by
 refine aA.mk Tryz.func163 rfl agI (by simp [Tryz.ntmps163]) fun w G=>?_
 refine R.bound 0 (sz:=6) (ds:=l.map attr) rfl fun hl=>?_
 have hl:l.length≤9223372036854775807:=by simpa [maxLen] using hl
 refine aMD ?_
 refine R.fU (fun (k:Nat) s=>St.lp [0,1] [(5,.pd (I k))] [] [] [] [] s) (fun (k:Nat)=>k≤l.length∧(l.take k).any (fun t=>eqS t.name n)=false) (fun (k:Nat)=>l.length - k) (0) (⟨by omega,by simp⟩) ?_
 rintro k ⟨hk,hinv⟩
 by_cases hlt:k<l.length
 ·have e1:decide ((k:Int)<(l.length:Int))=true:=by simp; omega
  cases h:eqS l[k].name n with
  | true=>
   have e2:(l[k].name.toList == n.toList)=true:=h
   apply ah; simp only [go_sem,↓reduceIte,e1,getD_map,hlt,e2]
   repeat refine ⟨by omega,?_⟩
   refine R.rC ?_
   unfold gy
   rw [jo hlt hinv h]; rfl
  | false=>
   have e2:(l[k].name.toList == n.toList)=false:=h
   apply ah; simp only [go_sem,↓reduceIte,e1,getD_map,hlt,e2,wrapN (k:=k) (by omega)]
   repeat refine ⟨by omega,?_⟩
   refine R.fE (k+1) ⟨by omega,by rw [abq hlt,amO,hinv]; simpa using h⟩
 ·have e1:decide ((k:Int)<(l.length:Int))=false:=by simp; omega
  rw [abT (by omega)] at hinv
  apply ah; simp only [go_sem,↓reduceIte,e1]
  refine R.rC ?_
  unfold gy
  rw [jL hinv]; rfl
theorem ajL:aG abo 98:=fun _ _=>by kernel_rfl
theorem Vp {a b:List W} {i:Nat} (h:i<a.length):dD (a.take (i+1)) b=dD (a.take i) b++b.map (kP a[i]):=by
 unfold dD
 rw [abq h,anQ]; simp
theorem Np (a b:List W) (ha:a.length≤100000) (hb:b.length≤100000) (hA:∀ x∈a,okW x) (hB:∀ x∈b,okW x):aQ abo 98 [.pd (ways a),.pd (ways b)] [ways (dD a b)]:=by
 refine aQ.mk Tryz.func98 rfl ajL (by simp [Tryz.ntmps98]) fun w G=>?_
 refine aMD ?_
 refine R.fJ 5 5 53 2 (by (simp only [go_sem])) rfl rfl ?_
 simp only [go_sem]
 apply ah; simp only [go_sem]
 refine R.fU (fun (i:Nat) s=>St.lp [0,1,4] [(6,.pd (I i)),(5,.own 5)] [] [] [] [(5,⟨53,2,(dD (a.take i) b).map way⟩)] s) (fun (i:Nat)=>i≤a.length) (fun (i:Nat)=>a.length - i) (0) (by omega) ?_
 rintro i hi
 by_cases aZ:i<a.length
 ·have e1:decide ((i:Int)<(a.length:Int))=true:=by simp; omega
  have hsi:=Vp (b:=b) aZ
  have hil:(dD (a.take i) b).length≤10000000000:=by
   rw [qF,ako]
   exact aj2 (apn (show min i a.length≤100000 by omega) hb) (by decide)
  obtain ⟨ap,an⟩:=hA _ (ab5 aZ)
  apply ah; simp only [go_sem,↓reduceIte,e1]
  refine R.fU (fun (j:Nat) s=>St.lp [0,1,4,6] [(7,.pd (I j)),(5,.own 5)] [] [] [] [(5,⟨53,2,(dD (a.take i) b++(b.take j).map (kP a[i])).map way⟩)] s) (fun (j:Nat)=>j≤b.length) (fun (j:Nat)=>b.length - j) (0) (by omega) ?_ (by (simp only [go_sem,aoI,adR,akw]); all_goals (and_intros <;> rfl))
  rintro j hj
  by_cases hlj:j<b.length
  ·have f1:decide ((j:Int)<(b.length:Int))=true:=by simp; omega
   obtain ⟨bp,bn⟩:=hB _ (ab5 hlj)
   have hjl:((dD (a.take i) b++(b.take j).map (kP a[i])).map way).length≤20000000000:=by simp; omega
   have hsn:(dD (a.take i) b++(b.take (j+1)).map (kP a[i])).map way=(dD (a.take i) b++(b.take j).map (kP a[i])).map way++[PD.ak [PD.list 1 (am9 I a[i].pos++am9 I b[j].pos),PD.list 1 (am9 I a[i].neg++am9 I b[j].neg)]]:=by
    rw [abq hlj,acC (f:=kP a[i]),← akr,acC (f:=way)]
    congr 1
    simp [way,kP,ints]
   generalize (dD (a.take i) b++(b.take j).map (kP a[i])).map way=O at hjl hsn
   apply ah; simp only [go_sem,↓reduceIte,f1]
   refine R.OC [1021,1034] [none,some 1021,none,none,none,none,none,some 1021,none,none,none,none,none,some 1021,some 1034,none,none,none,none,none,some 1034,none,none,none,none,none,some 1034,none,none] 60 mixed (by decide +kernel) (by decide +kernel) (akn.2 ⟨⟨rfl,rfl,rfl⟩,akn.2 ⟨⟨rfl,rfl,rfl⟩,fun _ h=>by cases h⟩⟩) ?_
   simp only [go_sem,uH,lY,agX,aj7,ami,aog,asi,apD,ao8]
   refine jD.empty (by simp) rfl rfl rfl rfl (by (simp only [go_sem])) sl27 (by rw [rH,xu]; decide) (by rw [rH,xw]; rfl) ?_
   refine mY 60 _ _ ?_
   simp only [go_sem,uH,lY,St.chain,agX,aj7,ami,getD_map,aZ]
   repeat refine ⟨by omega,?_⟩
   refine jD.append (by simp) rfl rfl rfl (by (simp only [go_sem])) rfl rfl rfl rfl sl27 rfl xu (by simp) (congrArg (ag6 adF) xw) rfl (fun q hq=>by rw [getD_map _ _ _ (by simpa using hq)]; rfl) (by show _ * kH abo 3≤_; rw [BJ]; simp only [ace,aj7]; omega) (by simp only [maxLen,ace,aj7]; omega) ?_
   refine mY 60 _ _ ?_
   simp only [go_sem,uH,lY,St.chain,agX,aj7,ami,akd,getD_map,hlj]
   repeat refine ⟨by omega,?_⟩
   refine jD.F8 (by simp) rfl rfl rfl (by (simp only [go_sem])) rfl rfl rfl rfl sl27 rfl xu (by simp) (congrArg (ag6 adF) xw) rfl (fun q hq=>by rw [getD_map _ _ _ (by simpa using hq)]; rfl) (by show _ * kH abo 3≤_; rw [BJ]; simp only [ace]; omega) (by simp only [maxLen,ace]; omega) ?_
   refine mY 60 _ _ ?_
   simp only [go_sem,uH,St.chain,er]
   refine jD.empty (by simp) rfl rfl rfl rfl (by (simp only [go_sem])) sl27 (by rw [rH,xu]; decide) (by rw [rH,xw]; rfl) ?_
   refine mY 60 _ _ ?_
   simp only [go_sem,uH,lY,St.chain,agX,aj7,ami,getD_map,aZ]
   repeat refine ⟨by omega,?_⟩
   refine jD.append (by simp) rfl rfl rfl (by (simp only [go_sem])) rfl rfl rfl rfl sl27 rfl xu (by simp) (congrArg (ag6 adF) xw) rfl (fun q hq=>by rw [getD_map _ _ _ (by simpa using hq)]; rfl) (by show _ * kH abo 3≤_; rw [BJ]; simp only [ace,aj7]; omega) (by simp only [maxLen,ace,aj7]; omega) ?_
   refine mY 60 _ _ ?_
   simp only [go_sem,uH,lY,St.chain,agX,aj7,ami,akd,getD_map,hlj]
   repeat refine ⟨by omega,?_⟩
   refine jD.F8 (by simp) rfl rfl rfl (by (simp only [go_sem])) rfl rfl rfl rfl sl27 rfl xu (by simp) (congrArg (ag6 adF) xw) rfl (fun q hq=>by rw [getD_map _ _ _ (by simpa using hq)]; rfl) (by show _ * kH abo 3≤_; rw [BJ]; simp only [ace]; omega) (by simp only [maxLen,ace]; omega) ?_
   refine mY 60 _ _ ?_
   simp only [go_sem,uH,lY,St.chain,er,agX,aj7,ami,akd]
   repeat refine ⟨by omega,?_⟩
   refine R.aY 1000000000000 48 rfl rfl (by (simp only [go_sem])) rfl rfl rfl rfl pO rfl nS (by simp) (congrArg (ag6 adF) pR) rfl qm (by simp; omega) (by decide) (by decide) ?_
   apply ah; simp only [go_sem,↓reduceIte,wrapN (k:=j) (by omega)]
   refine R.fE (j+1) (by omega) (l:=by (simp only [go_sem,hsn]); all_goals (and_intros <;> rfl))
  ·have f1:decide ((j:Int)<(b.length:Int))=false:=by simp; omega
   have hke:b.take j=b:=abT (by omega)
   apply ah; simp only [go_sem,↓reduceIte,f1,hke,wrapN (k:=i) (by omega)]
   refine R.fE (i+1) (by omega) (l:=by (simp only [go_sem,hsi]); all_goals (and_intros <;> rfl))
 ·have e1:decide ((i:Int)<(a.length:Int))=false:=by simp; omega
  have hke:a.take i=a:=abT (by omega)
  apply ah; simp only [go_sem,↓reduceIte,e1,hke]
  refine R.bP 5 rfl rfl ?_
  simp only [go_sem]
  refine R.rW ?_
  rfl
end Go.Proofs.Z
end
section
namespace Go.au
inductive dV:PD→PD→Prop
 | same (d:PD):dV d d
 | nil (sz:Nat):dV (.raw (.slice none 0 0)) (.list sz [])
 | ak {l m:List PD} (hl:l.length=m.length) (h:∀ j,dV (l.getD j (.ak [])) (m.getD j (.ak []))):dV (.ak l) (.ak m)
 | list (sz:Nat) {l m:List PD} (hl:l.length=m.length) (h:∀ j,dV (l.getD j (.ak [])) (m.getD j (.ak []))):dV (.list sz l) (.list sz m)
inductive jA:List PD→List PD→Prop
 | nil:jA [] []
 | cons {d e:PD} {l m:List PD} (h:dV d e) (t:jA l m):jA (d::l) (e::m)
theorem jA.len {l m:List PD} (h:jA l m):l.length=m.length:=by induction h with | nil=>rfl | cons _ _ ih=>simp [ih]
theorem jA.get {l m:List PD} (h:jA l m):∀ j,dV (l.getD j (.ak [])) (m.getD j (.ak [])):=by
 induction h with
 | nil=>intro j; simp; exact .same _
 | cons h _ ih=>intro j; cases j with
  | zero=>simpa using h
  | succ j=>simpa using ih j
theorem dV.xU {l m:List PD} (h:jA l m):dV (.ak l) (.ak m):=.ak h.len h.get
theorem dV.vw (sz:Nat) {l m:List PD} (h:jA l m):dV (.list sz l) (.list sz m):=.list sz h.len h.get
theorem dV.width {d d':PD} (h:dV d d'):d'.width=d.width:=by
 cases h with
 | same _=>rfl
 | nil _=>rfl
 | ak hl _=>exact hl.symm
 | list _ _ _=>rfl
theorem dV.rds {w:World} {G:Pub} {d d':PD} (h:dV d d'):(∀ v,Rd w G v d→Rd w G v d')∧∀ j v,Rd w G v (d.cell j)→Rd w G v (d'.cell j):=by
 induction h with
 | same _=>exact ⟨fun _ h=>h,fun _ _ h=>h⟩
 | nil sz=>
  have:∀ v,Rd w G v (.raw (.slice none 0 0))→Rd w G v (.list sz []):=fun v hr=>by
   have:v = .slice none 0 0:=by cases hr; rfl
   subst this; exact .nil sz
  exact ⟨this,fun _ v hr=>this v hr⟩
 | ak hl _ ih=>exact ⟨fun v hr=>hr.Ro.elim,fun j v hr=>(ih j).1 v hr⟩
 | @list sz l m hl h ih=>
  have:∀ v,Rd w G v (.list sz l)→Rd w G v (.list sz m):=by
   intro v hr
   cases hr with
   | nil _=>
    have:m=[]:=aks.1 (by simpa using hl.symm)
    subst this; exact .nil sz
   | empty _ a=>
    have:m=[]:=aks.1 (by simpa using hl.symm)
    subst this; exact .empty sz a
   | list _ _ b off cap vs hcap hmax hw iU hcell hrd=>
    rw [hl]
    exact .list sz m b off cap vs (by omega) hmax (fun i hi=>by rw [(h i).width]; exact hw i (by omega)) (fun i j hi hj=>iU i j (by omega) hj) (fun i j hi hj=>hcell i j (by omega) hj) (fun i j hi hj=>(ih i).2 j _ (hrd i j (by omega) hj))
  exact ⟨this,fun _ v hr=>this v hr⟩
theorem dV.rd {w:World} {G:Pub} {v:Value} {d d':PD} (h:dV d d') (hr:aP w G v d):aP w G v d':=by
 cases h with
 | same _=>exact hr
 | nil sz=>exact (dV.nil sz).rds.1 v hr
 | ak hl h=>
  obtain ⟨cs,rfl,hs,hc⟩:=hr
  exact ⟨cs,rfl,by rw [hs,hl],fun j hj=>(h j).rds.1 _ (hc j (by rw [hl]; exact hj))⟩
 | list sz hl h=>exact (dV.list sz hl h).rds.1 v hr
theorem R.Am {C:Cx} {s:St} {k:List KI} (t:Nat) {d d':PD} (hn:t<s.n) (ht:s.get t = .pd d) (h:dV d d') (next:R C k (s.set t (.pd d'))):R C k s:=by
 intro a w E g
 refine next a w E (g.BH hn ?_ (by simp))
 have:=g.slots t
 rw [ht] at this
 exact h.rd this
end Go.au
end
section
namespace Go.Proofs.Z
open Go Go.au Go.Proofs
set_option maxRecDepth 10000
set_option maxHeartbeats 4000000
theorem agN:aG abo 100:=fun _ _=>by kernel_rfl
def FU (x:Int):PD:=.ak [.raw (.slice none 0 0),.list 1 [I x]]
def Qr (x:Int):PD:=.ak [.list 1 [I x],.raw (.slice none 0 0)]
theorem agO:∀ l:List Int,jA (l.map FU) ((l.map qK).map way)
 | []=>.nil
 | x::l=>.cons (.xU (.cons (.nil 1) (.cons (.same _) .nil))) (agO l)
theorem agP:∀ l:List Int,jA (l.map Qr) ((l.map uV).map way)
 | []=>.nil
 | x::l=>.cons (.xU (.cons (.same _) (.cons (.nil 1) .nil))) (agP l)
theorem YI {l m l' m':List PD} (h:jA l m) (h':jA l' m'):jA (l++l') (m++m'):=by
 induction h with
 | nil=>exact h'
 | cons h _ ih=>exact .cons h ih
theorem agQ (y:W):dV (.list 2 (y.pos.map FU++y.neg.map Qr)) (ways (jY y)):=by
 show dV _ (.list 2 ((jY y).map way))
 unfold jY
 rw [acC]
 exact .vw 2 (YI (agO _) (agP _))
theorem Vq (l:List W) (y:W) (hl:l.length≤1000) (hA:∀ x∈l,x.pos.length≤100000000∧x.neg.length≤100000000) (hyp:y.pos.length≤40000) (hyn:y.neg.length≤40000):aQ abo 100 [.pd (ways l),.pd (way y)] [ways (aT (dD l (jY y)))]:=by
 have hnl:(jY y).length≤100000:=by simp [jY]; omega
 have hnw:∀ x∈jY y,x.pos.length≤1∧x.neg.length≤1:=by
  intro x hx
  rcases aj8.1 hx with h | h <;> (obtain ⟨z,_,rfl⟩:=acE.1 h; simp [qK,uV])
 have okb:vN (dD l (jY y)):=by
  refine ⟨?_,fun x hx=>?_⟩
  ·rw [qF]; exact aj2 (apn hl hnl) (by decide)
  ·obtain ⟨a,ha,hx⟩:=amb.1 hx
   obtain ⟨b,hb,rfl⟩:=acE.1 hx
   have h1:=hA a ha
   have h2:=hnw b hb
   simp only [okW,kP,agU]; omega
 refine aQ.mk Tryz.func100 rfl agN (by simp [Tryz.ntmps100]) fun w G=>?_
 refine aMD ?_
 refine R.fJ 5 5 53 2 (by (simp only [go_sem])) rfl rfl ?_
 simp only [go_sem]
 apply ah; simp only [go_sem]
 refine R.fU (fun (k:Nat) s=>St.lp [0,3,4] [(6,.pd (I k)),(5,.own 5)] [3] [] [] [(5,⟨53,2,(y.pos.take k).map FU⟩)] s) (fun (k:Nat)=>k≤y.pos.length) (fun (k:Nat)=>y.pos.length - k) (0) (by omega) ?_
 rintro k hk
 by_cases hlk:k<y.pos.length
 ·have e1:decide ((k:Int)<(y.pos.length:Int))=true:=by simp; omega
  have hsn:(y.pos.take (k+1)).map FU=(y.pos.take k).map FU++[PD.ak [PD.raw (.slice none 0 0),PD.list 1 [I y.pos[k]]]]:=by rw [abq hlk,acC]; rfl
  apply ah; simp only [go_sem,↓reduceIte,e1,getD_map,hlk]
  repeat refine ⟨by omega,?_⟩
  refine R.aY 1000000000 48 rfl rfl (by (simp only [go_sem])) rfl rfl rfl rfl pO rfl nS (by simp) (congrArg (ag6 adF) pR) rfl qm (by simp; omega) (by decide) (by decide) ?_
  apply ah; simp only [go_sem,↓reduceIte,wrapN (k:=k) (by omega)]
  refine R.fE (k+1) (by omega) (l:=by (simp only [go_sem,hsn]); all_goals (and_intros <;> rfl))
 ·have e1:decide ((k:Int)<(y.pos.length:Int))=false:=by simp; omega
  have hke:y.pos.take k=y.pos:=abT (by omega)
  apply ah; simp only [go_sem,↓reduceIte,e1,hke]
  refine R.fU (fun (k:Nat) s=>St.lp [0,3,4] [(7,.pd (I k)),(5,.own 5)] [3] [] [] [(5,⟨53,2,y.pos.map FU++(y.neg.take k).map Qr⟩)] s) (fun (k:Nat)=>k≤y.neg.length) (fun (k:Nat)=>y.neg.length - k) (0) (by omega) ?_ (by (simp only [go_sem,aoI,adR,akw]); all_goals (and_intros <;> rfl))
  rintro k hk
  by_cases hlk:k<y.neg.length
  ·have e1:decide ((k:Int)<(y.neg.length:Int))=true:=by simp; omega
   have hsn:y.pos.map FU++(y.neg.take (k+1)).map Qr=y.pos.map FU++(y.neg.take k).map Qr++[PD.ak [PD.list 1 [I y.neg[k]],PD.raw (.slice none 0 0)]]:=by rw [abq hlk,acC,akr]; rfl
   apply ah; simp only [go_sem,↓reduceIte,e1,getD_map,hlk]
   repeat refine ⟨by omega,?_⟩
   refine R.aY 1000000000 48 rfl rfl (by (simp only [go_sem])) rfl rfl rfl rfl pO rfl nS (by simp) (congrArg (ag6 adF) pR) rfl qm (by simp; omega) (by decide) (by decide) ?_
   apply ah; simp only [go_sem,↓reduceIte,wrapN (k:=k) (by omega)]
   refine R.fE (k+1) (by omega) (l:=by (simp only [go_sem,hsn]); all_goals (and_intros <;> rfl))
  ·have e1:decide ((k:Int)<(y.neg.length:Int))=false:=by simp; omega
   have hke2:y.neg.take k=y.neg:=abT (by omega)
   apply ah; simp only [go_sem,↓reduceIte,e1,hke2]
   refine R.bP 5 rfl rfl ?_
   simp only [go_sem]
   refine R.Am 43 (by (simp only [go_sem])) rfl (agQ y) ?_
   simp only [go_sem]
   refine R.kW (Np l (jY y) (by omega) hnl (fun x hx=>⟨by have:=hA x hx; omega,by have:=hA x hx; omega⟩) (fun x hx=>⟨by have:=hnw x hx; omega,by have:=hnw x hx; omega⟩)) rfl rfl (.cons (.pd _) (.cons (.pd _) (.nil))) ?_
   refine R.kW (vg (dD l (jY y)) okb) rfl rfl (.cons (.pd _) (.nil)) ?_
   refine aME ?_
   refine R.rW ?_
   rfl
def Vr (o:Option (List V)):List PD:=match o with | some r=>[vals r,B true] | none=>[fC,B false]
theorem aa2 {l:List Attr} {n:ByteArray} {k:Nat} (h:nN l n=some k):k<l.length:=by
 unfold nN at h
 exact (akB.1 h).1
theorem YJ (la lb:List Attr) (x y:List V) (hx:x.length=la.length) (hy:y.length=lb.length) (hxl:x.length≤100000000) (hyl:y.length≤100000000):aQ abo 97 [.pd (attrs la),.pd (attrs lb),.pd (vals x),.pd (vals y)] (Vr (uX la lb x y)):=by
 refine aQ.mk Tryz.func97 rfl ajK (by simp [Tryz.ntmps97]) fun w G=>?_
 (refine iE 7 _ _ ?_; simp only [go_sem,↓reduceIte])
 refine R.empty 13 rfl rfl rfl rfl (by (simp only [go_sem])) Dt (by rw [rH,Dv]; decide) (by rw [rH,Dw]; rfl) ?_
 refine aMD ?_
 refine R.append rfl rfl (aj (by (simp only [go_sem]))) rfl rfl rfl (es:=x.map val) rfl Dt rfl Dv (by decide) (congrArg (ag6 adF) Dw) rfl (fun i hi=>?_) ?_ ?_ ?_
 ·simp only [ace] at hi
  simp only [getD_map,hi]; rfl
 ·rw [rH,H6]; simp; omega
 ·simp [maxLen]; omega
 have hn0:([]:List PD)++x.map val=x.map val:=akd _
 apply ev8; simp only [go_sem,hn0]
 have hz:(lb.zip y).length=lb.length:=by simp; omega
 refine R.fU (fun (q:Nat × List V) s=>St.lp [0,1,2,3] [(11,.pd (I q.1)),(10,.own 13)] [] [] [] [(13,⟨76,3,q.2.map val⟩)] s) (fun (q:Nat × List V)=>q.1≤lb.length∧q.2.length≤x.length+q.1∧uX la lb x y=gU la x ((lb.zip y).drop q.1) q.2) (fun (q:Nat × List V)=>lb.length - q.1) ((0,x)) (⟨by simp,by simp,rfl⟩) ?_
 rintro ⟨i,out⟩ ⟨hi,hol,hinv⟩
 simp only at hi hol hinv
 by_cases aZ:i<lb.length
 ·have e1:decide ((i:Int)<(lb.length:Int))=true:=by simp; omega
  have agR:i<y.length:=by omega
  have hzi:i<(lb.zip y).length:=by omega
  rw [drop_cons hzi,aoL,gU] at hinv
  have hcf:=Ak la lb[i].name
  apply ah; simp only [go_sem,↓reduceIte,e1,getD_map,aZ]
  repeat refine ⟨by omega,?_⟩
  refine R.kC (Ba la lb[i].name) rfl rfl (.cons (.pd _) (.cons (.pd _) (.nil))) ?_
  cases hf:nN la lb[i].name with
  | none=>
   rw [hf] at hinv hcf
   simp only at hinv hcf
   have e2:decide (gy la lb[i].name<0)=true:=by rw [hcf]; rfl
   apply ah; simp only [go_sem,↓reduceIte,e2,getD_map,agR]
   repeat refine ⟨by omega,?_⟩
   refine R.aY 1000000000 32 rfl rfl (by (simp only [go_sem])) rfl rfl rfl rfl Dt rfl Dv (by simp) (congrArg (ag6 adF) Dw) rfl H6 (by simp; omega) (by decide) (by decide) ?_
   apply ah; simp only [go_sem,↓reduceIte,wrapN (k:=i) (by omega)]
   refine R.fE (i+1,out++[y[i]]) ⟨by simp only; omega,by simp; omega,hinv⟩ (hm:=by show _<_; simp only; omega) (l:=by (simp only [go_sem,acC]); all_goals (and_intros <;> rfl))
  | some k=>
   rw [hf] at hinv hcf
   simp only at hinv hcf
   have hk:=aa2 hf
   have hkx:k<x.length:=by omega
   have e2:decide (gy la lb[i].name<0)=false:=by rw [hcf]; simp
   have hxk:x.getD k V.zero=x[k]:=by simp [hkx]
   rw [hxk] at hinv
   rw [hcf] at e2 ⊢
   apply ah; simp only [go_sem,↓reduceIte,e2]
   refine R.aO 8 80 mixed (by decide +kernel) ?_; simp only [go_sem,getD_map,hkx,agR]
   repeat refine ⟨by omega,?_⟩
   refine R.kC (Nl x[k] 1 y[i] 0) rfl rfl (.cons (.pd _) (.cons (.pd _) (.cons (.pd _) (.cons (.pd _) (.nil))))) ?_
   cases ht:iy x[k] 1 y[i] 0 with
   | true=>
    rw [ht,ab8 rfl] at hinv
    apply ah; simp only [go_sem,↓reduceIte,wrapN (k:=i) (by omega)]
    refine R.fE (i+1,out) ⟨by simp only; omega,by simp only; omega,hinv⟩ (by show _<_; simp only; omega)
   | false=>
    rw [ht,abQ (by simp)] at hinv
    rw [hinv]
    refine aME ?_
    refine R.rW ?_
    rfl
 ·have e1:decide ((i:Int)<(lb.length:Int))=false:=by simp; omega
  rw [adG (by omega),gU] at hinv
  rw [hinv]
  apply ah; simp only [go_sem,↓reduceIte,e1]
  refine R.bP 13 rfl rfl ?_
  simp only [go_sem]
  refine R.rW ?_
  rfl
theorem agS:aG abo 101:=fun _ _=>by kernel_rfl
def lW (l:List Ans):Nat:=(l.map fun a=>a.ways.length).sum
theorem Nq (l:List Ans) (x:Ans):lW (l++[x])=lW l+x.ways.length:=by simp [lW]
theorem IJ {l:List Ans} {a:Ans} (h:a∈l):a.ways.length≤lW l:=by
 induction l with
 | nil=>cases h
 | cons b l ih=>
  simp only [lW,acn,List.sum_cons] at ih ⊢
  rcases aj6.1 h with rfl | h
  ·omega
  ·have:=ih h; omega
theorem vC {l:List Ans} {row:List V} {k:Nat} (h:atR l row=some k):k<l.length:=(akB.1 h).1
theorem Qs:∀ (l:List Ans) (k:Nat) (x:Ans) (h:k<l.length),lW (l.set k x)+l[k].ways.length=lW l+x.ways.length
 | b::l,0,x,_=>by simp [lW]; omega
 | b::l,k+1,x,h=>by
  have:=Qs l k x (by simpa using h)
  simp only [lW,List.set_cons_succ,acn,List.sum_cons,amx] at this ⊢; omega
theorem Lc {O:List Ans} {x:Ans} {k:Nat} (h:atR O x.row=some k):vk O x=O.set k ⟨(O[k]'(vC h)).row,(O[k]'(vC h)).ways++x.ways⟩:=by
 have hk:=vC h
 unfold vk
 rw [h]
 simp only [abp,ajW hk,Option.getD_some]
theorem aa3 (O:List Ans) (x:Ans):lW (vk O x)=lW O+x.ways.length:=by
 cases h:atR O x.row with
 | none=>unfold vk; rw [h]; exact Nq O x
 | some k=>
  rw [Lc h]
  have:=Qs O k ⟨(O[k]'(vC h)).row,(O[k]'(vC h)).ways++x.ways⟩ (vC h)
  simp only [agU] at this; omega
theorem YK {O:List Ans} {x:Ans} {P:W→Prop} (hO:∀ a∈O,∀ w∈a.ways,P w) (hx:∀ w∈x.ways,P w):∀ a∈vk O x,∀ w∈a.ways,P w:=by
 cases h:atR O x.row with
 | none=>
  unfold vk; rw [h]
  intro a ha
  rcases aj8.1 ha with ha | ha
  ·exact hO a ha
  ·rw [adJ.1 ha]; exact hx
 | some k=>
  rw [Lc h]
  intro a ha
  rcases List.mem_or_eq_of_mem_set ha with ha | rfl
  ·exact hO a ha
  ·intro w hw
   rcases aj8.1 hw with hw | hw
   ·exact hO _ (ab5 (vC h)) w hw
   ·exact hx w hw
theorem Bc {l:List Ans} (hv:∀ a∈l,dI a.row) {i:Nat} (hi:i<l.length):gather (l.take (i+1))=vk (gather (l.take i)) l[i]:=by
 rw [abq hi]
 exact G9 (fun a ha=>hv a (aou ha)) (hv _ (ab5 hi))
theorem Ea {l:List Ans} (hv:∀ a∈l,dI a.row):∀ i,i≤l.length→lW (gather (l.take i))=lW (l.take i)
 | 0,_=>by simp [gather,dQ,bg,lW]
 | i+1,hi=>by
  have aZ:i<l.length:=by omega
  rw [Bc hv aZ,aa3,Ea hv i (by omega),abq aZ,Nq]
theorem Hl {l:List Ans} {P:W→Prop} (hv:∀ a∈l,dI a.row) (hP:∀ a∈l,∀ w∈a.ways,P w):∀ i,i≤l.length→∀ a∈gather (l.take i),∀ w∈a.ways,P w
 | 0,_=>by simp [gather,dQ,bg]
 | i+1,hi=>by
  have aZ:i<l.length:=by omega
  rw [Bc hv aZ]
  exact YK (Hl hv hP i (by omega)) (hP _ (ab5 aZ))
theorem YL (l:List Ans) (i:Nat):lW (l.take i)≤lW l:=by
 conv=>rhs; rw [← akz i l]
 simp only [lW,acC,List.sum_append]; omega
theorem FV {l:List Ans} (hv:∀ a∈l,dI a.row):((gather l).map (·.row)).Nodup:=by
 have h1:=gZ (dQ l)
 have h2:=J5 hv
 have e:((gather l).map (·.row)).map rowB=(bg (dQ l)).map (·.1):=by
  unfold gather
  rw [amk,amk]
  exact akh fun p hp=>(h2 p hp).1.symm
 rw [← e] at h1
 exact List.Pairwise.of_map rowB (fun a b h e=>h (by rw [e])) h1
theorem wV:∀ l:List Ans,((dY l).map (·.row)).Sublist (l.map (·.row))
 | []=>.slnil
 | a::l=>by
  have ih:=wV l
  unfold dY at ih ⊢
  rw [List.filterMap_cons]
  by_cases h:(aT a.ways).length=0
  ·rw [ab8 h]; exact ih.cons _
  ·rw [abQ h]; exact ih.cons_cons _
theorem place {GL:List Ans} (hnd:(GL.map (·.row)).Nodup) {k j:Nat} (hk:k<GL.length) (hne:(aT GL[k].ways).length≠0) (hj:j≤(sortA (dY (GL.take k))).length)
  (hp:∀ m (h:m<(sortA (dY (GL.take k))).length),j≤m→dw GL[k].row (sortA (dY (GL.take k)))[m].row<0) (he:∀ h:0<j,¬ dw GL[k].row (sortA (dY (GL.take k)))[j - 1].row<0):
  sortA (dY (GL.take (k+1)))=(sortA (dY (GL.take k))).take j++⟨GL[k].row,aT GL[k].ways⟩::(sortA (dY (GL.take k))).drop j:=by
 have hsub:∀ m,((GL.take m).map (·.row)).Nodup:=fun m=>hnd.sublist ((ash m GL).map _)
 have hnc:∀ m,((dY (GL.take m)).map (·.row)).Nodup:=fun m=>(hsub m).sublist (wV _)
 have hcl:dY (GL.take (k+1))=dY (GL.take k)++[⟨GL[k].row,aT GL[k].ways⟩]:=by
  rw [abq hk,He,abQ hne]
 have hn:∀ a∈sortA (dY (GL.take k)),a.row≠GL[k].row:=by
  intro a ha e
  have ha:=(jH _).mem_iff.1 ha
  have h1:=hnc (k+1)
  rw [hcl,acC,amJ] at h1
  exact h1.2.2 a.row (anl ha) _ (by simp) e
 refine Nc (og (hnc _)) (bubble (og (hnc _)) hj hp he hn) fun y=>?_
 rw [(jH _).mem_iff,hcl,Vj,(jH (dY (GL.take k))).mem_iff]
 simp only [aj8,adJ]
 exact Or.comm
theorem YM {GL S:List Ans} (hnd:(GL.map (·.row)).Nodup) {k:Nat} (hS:sortA (dY (GL.take k))=S) (hk:k<GL.length) (hne:(aT GL[k].ways).length≠0) {j:Nat} (hj:j≤S.length)
  (hp:∀ m (h:m<S.length),j≤m→dw GL[k].row S[m].row<0) (he:∀ h:0<j,¬ dw GL[k].row S[j - 1].row<0):
  sortA (dY (GL.take (k+1)))=S.take j++⟨GL[k].row,aT GL[k].ways⟩::S.drop j:=by
 subst hS; exact place hnd hk hne hj hp he
theorem YN {S:List Ans} (x:Ans) {q:Nat} (hq:q<S.length):((S.take (q+1)++x::S.drop (q+1)).set (q+1) S[q]).set q x=S.take q++x::S.drop q:=by
 have hl:(S.take q).length=q:=by simp; omega
 rw [abq hq,drop_cons hq,akr,aoY _ _ (by omega),aoY _ _ (by omega),hl]
 simp
theorem oO (l:List Ans) (hv:∀ a∈l,dI a.row) (hl:l.length≤1000000) (hs:lW l≤1000000000000) (hw:∀ a∈l,∀ w∈a.ways,okW w):aQ abo 101 [.pd (bT l)] [bT (sortA (dY (gather l)))]:=by
 refine aQ.mk Tryz.func101 rfl agS (by simp [Tryz.ntmps101]) fun w G=>?_
 refine aMD ?_
 refine R.fJ 3 3 39 2 (by (simp only [go_sem])) rfl rfl ?_
 simp only [go_sem]
 apply ah; simp only [go_sem]
 refine R.fU (fun (i:Nat) s=>St.lp [0,2] [(4,.pd (I i)),(3,.own 3)] [10] [] [] [(3,⟨39,2,(gather (l.take i)).map ans⟩)] s) (fun (i:Nat)=>i≤l.length) (fun (i:Nat)=>l.length - i) (0) (by omega) ?_
 rintro i hi
 by_cases aZ:i<l.length
 ·have e1:decide ((i:Int)<(l.length:Int))=true:=by simp; omega
  have hgt:=Bc hv aZ
  have hgl:(gather (l.take i)).length≤i:=by
   have:=J6 (l.take i) (fun a ha=>hv a (aou ha))
   rw [ako] at this; omega
  have hgs:lW (gather (l.take i))≤1000000000000:=by
   rw [Ea hv i hi]; exact aj2 (YL l i) hs
  have am6:l[i].ways.length≤1000000000000:=aj2 (IJ (ab5 aZ)) hs
  generalize gather (l.take i)=O at hgt hgl hgs
  apply ah; simp only [go_sem,↓reduceIte,e1,getD_map,aZ]
  repeat refine ⟨by omega,?_⟩
  refine R.kC (acB O l[i].row) rfl rfl (.cons (.own 3 ⟨39,2,O.map ans⟩ rfl) (.cons (.pd _) (.nil))) ?_
  cases ha:atR O l[i].row with
  | none=>
   have hp:vk O l[i]=O++[l[i]]:=by unfold vk; rw [ha]
   rw [hp] at hgt
   have e2:decide (J7 none≥0)=false:=rfl
   apply ah; simp only [go_sem,↓reduceIte,e2,getD_map,aZ]
   repeat refine ⟨by omega,?_⟩
   refine R.aY 1000000000 48 rfl rfl (by (simp only [go_sem])) rfl rfl rfl rfl zi rfl xO (by simp) (congrArg (ag6 adF) zl) rfl zk (by simp; omega) (by decide) (by decide) ?_
   apply ah; simp only [go_sem,↓reduceIte,wrapN (k:=i) (by omega)]
   refine R.fE (i+1) (by omega) (l:=by (simp only [go_sem,hgt,acC]); all_goals (and_intros <;> rfl))
  | some k=>
   have hp:=Lc ha
   have hk:=vC ha
   have hkw:O[k].ways.length≤1000000000000:=aj2 (IJ (ab5 hk)) hgs
   rw [hp] at hgt
   have e2:decide (J7 (some k)≥0)=true:=by simp [J7]
   have e3:J7 (some k)=(k:Int):=rfl
   rw [e3] at e2 ⊢
   refine aME ?_
   refine R.OC [1028] [none,none,some 1028,none,none,none,none,none,some 1028,none,none,none,none,none,some 1028] 60 mixed (by decide +kernel) (by decide +kernel) (akn.2 ⟨⟨rfl,rfl,rfl⟩,fun _ h=>by cases h⟩) ?_
   simp only [go_sem,uH,lY,agX,aj7,ami,aog,asi,apD,ao8]
   refine jD.empty (by simp) rfl rfl rfl rfl (by (simp only [go_sem])) pO (by rw [rH,nS]; decide) (by rw [rH,pR]; rfl) ?_
   refine mY 60 _ _ ?_
   simp only [go_sem,uH,TU,lY,St.chain,ami,apD,ao8,getD_map,hk]
   repeat refine ⟨by omega,?_⟩
   refine jD.append (by simp) rfl rfl rfl (by (simp only [go_sem])) rfl rfl rfl rfl pO rfl nS (by simp) (congrArg (ag6 adF) pR) rfl (fun q hq=>by rw [getD_map _ _ _ (by simpa using hq)]; rfl) (by show _ * kH abo 53≤_; rw [qm]; simp only [ace,aj7]; omega) (by simp only [maxLen,ace,aj7]; omega) ?_
   refine mY 60 _ _ ?_
   simp only [go_sem,uH,lY,St.chain,agX,aj7,ami,akd,getD_map,aZ]
   repeat refine ⟨by omega,?_⟩
   refine jD.F8 (by simp) rfl rfl rfl (by (simp only [go_sem])) rfl rfl rfl rfl pO rfl nS (by simp) (congrArg (ag6 adF) pR) rfl (fun q hq=>by rw [getD_map _ _ _ (by simpa using hq)]; rfl) (by show _ * kH abo 53≤_; rw [qm]; simp only [ace]; omega) (by simp only [maxLen,ace]; omega) ?_
   refine mY 60 _ _ ?_
   simp only [go_sem,uH,St.chain,er]
   have hsp:spl (ans O[k]) 1 (PD.list 2 (am9 way O[k].ways++am9 way l[i].ways))=ans ⟨O[k].row,O[k].ways++l[i].ways⟩:=by
    show PD.ak [vals O[k].row,PD.list 2 _]=_
    rw [← acC]
    try rfl
   have hset:am9 ans (O.set k ⟨O[k].row,O[k].ways++l[i].ways⟩)=(am9 ans O).set k (spl (ans O[k]) 1 (PD.list 2 (am9 way O[k].ways++am9 way l[i].ways))):=by rw [hsp,apq]
   apply ah; simp only [go_sem,↓reduceIte,getD_map,hk,wrapN (k:=i) (by omega)]
   repeat refine ⟨by omega,?_⟩
   refine R.fE (i+1) (by omega) (l:=by (simp only [go_sem,hgt,hset]); all_goals (and_intros <;> rfl))
 ·have e1:decide ((i:Int)<(l.length:Int))=false:=by simp; omega
  have hke:l.take i=l:=abT (by omega)
  have hgw:=Hl hv hw l.length (agM _)
  have hgs:=Ea hv l.length (agM _)
  have hgl:=J6 l hv
  rw [abT (agM _)] at hgw hgs
  apply ah; simp only [go_sem,↓reduceIte,e1,hke]
  refine R.bP 3 rfl rfl ?_
  simp only [go_sem]
  refine R.fJ 6 6 39 2 (by (simp only [go_sem])) rfl rfl ?_
  simp only [go_sem]
  have hnd:=FV hv
  have hge:∀ a∈gather l,a.ways.length≤1000000000000:=fun a ha=>aj2 (IJ ha) (by rw [hgs]; exact hs)
  generalize gather l=GL at hgw hgs hgl hnd hge
  refine R.fU (fun (k:Nat) s=>St.lp [2,3] [(7,.pd (I k)),(6,.own 6)] [] [] [] [(6,⟨39,2,(sortA (dY (GL.take k))).map ans⟩)] s) (fun (k:Nat)=>k≤GL.length) (fun (k:Nat)=>GL.length - k) (0) (by omega) ?_
  rintro k hk
  by_cases hlk:k<GL.length
  ·have f1:decide ((k:Int)<(GL.length:Int))=true:=by simp; omega
   have hSl:(sortA (dY (GL.take k))).length≤k:=by
    rw [(jH _).length_eq]
    have:=(wV (GL.take k)).length_le
    simp only [ace,ako] at this; omega
   have agT:(aT GL[k].ways).length=0→sortA (dY (GL.take (k+1)))=sortA (dY (GL.take k)):=fun hz=>by
    rw [abq hlk,He,ab8 hz,akw]
   obtain ⟨S,hS⟩:∃ S,sortA (dY (GL.take k))=S:=⟨_,rfl⟩
   rw [hS] at hSl agT
   have okw:vN GL[k].ways:=⟨by have:=hge _ (ab5 hlk); omega,hgw _ (ab5 hlk)⟩
   apply ah; simp only [go_sem,↓reduceIte,f1,getD_map,hlk,hS]
   repeat refine ⟨by omega,?_⟩
   refine R.kW (vg GL[k].ways okw) rfl rfl (.cons (.pd _) (.nil)) ?_
   by_cases hz:(aT GL[k].ways).length=0
   ·have f2:(((aT GL[k].ways).length:Int) == 0)=true:=by simp [hz]
    have hsn:=agT hz
    apply ah; simp only [go_sem,↓reduceIte,f2,wrapN (k:=k) (by omega)]
    refine R.fE (k+1) (by omega) (l:=by (simp only [go_sem,hsn]); all_goals (and_intros <;> rfl))
   ·have f2:(((aT GL[k].ways).length:Int) == 0)=false:=by rw [amw]; omega
    have hwl:IntKind.i64.wrap (((S.length+1:Nat):Int) - 1)=(S.length:Int):=by rw [wrap64 (by omega) (by omega)]; omega
    apply ah; simp only [go_sem,↓reduceIte,f2,getD_map,hlk]
    repeat refine ⟨by omega,?_⟩
    refine R.aY 1000000000 48 rfl rfl (by (simp only [go_sem])) rfl rfl rfl rfl zi rfl xO (by simp) (congrArg (ag6 adF) zl) rfl zk (by simp; omega) (by decide) (by decide) ?_
    have hx:am9 ans S++[PD.ak [vals GL[k].row,ways (aT GL[k].ways)]]=(S.take S.length++(⟨GL[k].row,aT GL[k].ways⟩:Ans)::S.drop S.length).map ans:=by simp; try rfl
    apply ah; simp only [go_sem,↓reduceIte,hx,ace,agU,aqZ,avn,List.length_singleton,hwl]
    refine R.fU (fun (j:Nat) s=>St.lp [2,3,6,7] [(9,.pd (I j)),(6,.own 6)] [] [] [] [(6,⟨39,2,(S.take j++(⟨GL[k].row,aT GL[k].ways⟩:Ans)::S.drop j).map ans⟩)] s) (fun (j:Nat)=>j≤S.length∧∀ m (h:m<S.length),j≤m→dw GL[k].row S[m].row<0) (fun (j:Nat)=>j) (S.length) (⟨agM _,fun m h hm=>by omega⟩) ?_ (by (simp only [go_sem,aqZ,avn]); all_goals (and_intros <;> rfl))
    rintro j ⟨hj,hpj⟩
    rcases j with _ | q
    ·have hfin:=YM hnd hS hlk hz (aoN _) hpj (fun h=>absurd h (by omega))
     have g1:decide (((0:Nat):Int) > 0)=false:=rfl
     refine aME ?_
     refine R.aO 17 80 mixed (by decide +kernel) ?_; simp only [go_sem,g1]
     repeat refine ⟨by omega,?_⟩
     refine RY.fD (args:=[]) (b:=false) (rs:=[I 0]) rfl rfl rfl rfl (fun h=>by cases h) (by simp [plain,PD.plain]) (by (simp only [go_sem])) ?_
     (refine aH 80 _ _ ?_; simp only [go_sem])
     apply ah; simp only [go_sem,↓reduceIte,wrapN (k:=k) (by omega)]
     refine R.fE (k+1) (by omega) (l:=by (simp only [go_sem,hfin,aoI,aqA,akd]); all_goals (and_intros <;> rfl))
    ·have hq:q<S.length:=by omega
     have g1:decide ((((q+1:Nat):Nat):Int) > 0)=true:=abE (by omega)
     have hwq:IntKind.i64.wrap (((q+1:Nat):Int) - 1)=(q:Int):=by rw [wrap64 (by omega) (by omega)]; omega
     obtain ⟨T,hT⟩:∃ T,S.take (q+1)++(⟨GL[k].row,aT GL[k].ways⟩:Ans)::S.drop (q+1)=T:=⟨_,rfl⟩
     have hTl:T.length=S.length+1:=by rw [← hT]; simp; omega
     have hb1:q+1<T.length:=by omega
     have hb0:q<T.length:=by omega
     have hT1:T[q+1]=⟨GL[k].row,aT GL[k].ways⟩:=by subst hT; rw [List.getElem_append_right (by simp; omega)]; simp [show min (q+1) S.length=q+1 by omega]
     have hT0:T[q]=S[q]:=by subst hT; rw [aps (by simp; omega)]; simp
     apply ah; simp only [go_sem,↓reduceIte,hT]
     refine R.aO 17 80 mixed (by decide +kernel) ?_; simp only [go_sem,g1,hwq,getD_map,hb1,hb0,hT1,hT0]
     repeat refine ⟨by omega,?_⟩
     refine RY.fD (rs:=[I (dw GL[k].row S[q].row)]) rfl rfl rfl rfl (fun _=>⟨by simp [iQ,Op.operands,agt,aW,St.get,lk,SV.unbox],.cons (.pd _) (.cons (.pd _) .nil),La GL[k].row S[q].row⟩) (by simp [plain,PD.plain]) (by (simp only [go_sem])) ?_
     by_cases hc:dw GL[k].row S[q].row<0
     ·have c1:decide (dw GL[k].row S[q].row<0)=true:=abE hc
      (refine aH 80 _ _ ?_; simp only [go_sem,c1])
      have hsw:=YN (⟨GL[k].row,aT GL[k].ways⟩:Ans) hq
      have hset:((am9 ans T).set (q+1) (spl (ans (⟨GL[k].row,aT GL[k].ways⟩:Ans)) 0 (ans S[q]))).set q (spl (((am9 ans T).set (q+1) (spl (ans (⟨GL[k].row,aT GL[k].ways⟩:Ans)) 0 (ans S[q]))).getD q (PD.ak [])) 0 (PD.ak [vals GL[k].row,ways (aT GL[k].ways)]))=(S.take q++(⟨GL[k].row,aT GL[k].ways⟩:Ans)::S.drop q).map ans:=by
       have s1:spl (ans (⟨GL[k].row,aT GL[k].ways⟩:Ans)) 0 (ans S[q])=ans S[q]:=rfl
       have s2:∀ a:Ans,spl (ans a) 0 (PD.ak [vals GL[k].row,ways (aT GL[k].ways)])=ans (⟨GL[k].row,aT GL[k].ways⟩:Ans):=fun _=>rfl
       rw [s1,← apq,getD_map _ _ _ (by simp; omega),s2,← apq,← hT,hsw]
      apply ah; simp only [go_sem,↓reduceIte,hwq,getD_map,hb1,hb0,hT1,hT0]
      repeat (refine And.intro (by first | omega | (simp; omega)) ?_)
      have hin:q≤S.length∧∀ m (h:m<S.length),q≤m→dw GL[k].row S[m].row<0:=⟨by omega,fun m h hm=>by
       rcases aky q m with c | c
       ·exact hpj m h (by omega)
       ·obtain rfl:m=q:=by omega
        exact hc⟩
      refine R.fE q hin (hm:=by show q<q+1; omega) (l:=by (simp only [go_sem,hset]); all_goals (and_intros <;> rfl))
     ·have c1:decide (dw GL[k].row S[q].row<0)=false:=abz hc
      have hfin:=YM hnd hS hlk hz hj hpj (fun _=>hc)
      (refine aH 80 _ _ ?_; simp only [go_sem,c1])
      apply ah; simp only [go_sem,↓reduceIte,wrapN (k:=k) (by omega)]
      refine R.fE (k+1) (by omega) (l:=by (simp only [go_sem,hfin,hT]); all_goals (and_intros <;> rfl))
  ·have f1:decide ((k:Int)<(GL.length:Int))=false:=by simp; omega
   have hke2:GL.take k=GL:=abT (by omega)
   apply ah; simp only [go_sem,↓reduceIte,f1,hke2]
   refine R.bP 6 rfl rfl ?_
   simp only [go_sem]
   refine R.rW ?_
   rfl
end Go.Proofs.Z
end
section
namespace Go.au
section
variable {C:Cx} {s s':St} {all:Array Oper} {l:List Oper} {k:List KI} {o:Oper}
theorem Qu (s:St) (i:Nat) (r r':Row):(s.newRow i r).newRow i r'=s.newRow i r':=by
 have hk:∀ x:SV,(x.aS i).aS i=x.aS i:=by
  intro x
  induction x with
  | own j=>simp only [SV.aS]; split <;> simp_all [SV.aS]
  | je j a b=>simp only [SV.aS]; split <;> simp_all [SV.aS]
  | view j a=>simp only [SV.aS]; split <;> simp_all [SV.aS]
  | gd c v ih=>simp only [SV.aS,ih]
  | mQ c v ih=>simp only [SV.aS,ih]
  | _=>simp only [SV.aS]
 have hu:∀ l:List (Nat × Row),up i r' (up i r l)=up i r' l:=by
  intro l
  induction l with
  | nil=>simp [up]
  | cons p l ih=>
   obtain ⟨j,z⟩:=p
   simp only [up]
   split
   ·simp [up]
   ·rename_i h; simp [up,h,ih]
 simp only [St.newRow,amk,hu]
 congr 1
 ·refine akh fun p _=>?_
  simp only [anK,hk]
 ·refine akh fun p _=>?_
  simp only [anK,amk]
  congr 1
  refine akh fun x _=>?_
  simp only [anK,hk]
 ·refine akh fun p _=>?_
  simp only [anK,hk]
theorem R.Vs {x y:Operand} {t t' e:TypeId} {es:List PD} (i sz:Nat) (ho:o.op = .call ⟨.builtin .append,#[x,y],#[t,t']⟩) (hg:o.guard=none) (hd:bW s o) (hr0:C.kK i=none) (hx:aW s x = .pd (.raw (.slice none 0 0)))
  (hy:pX (s.newRow i ⟨e,sz,[]⟩).row (aW (s.newRow i ⟨e,sz,[]⟩) y)=some es) (he:fA C.P t=some e) (hz:aV C.P e=sz) (h0:sz≠0) (hzero:(bQ C.P e).map adF=some sz) (ht:t'=t)
  (hw:∀ i,i<es.length→(es.getD i (.ak [])).width=sz) (hb:es.length * kH C.P e≤140737488355328) (hm:es.length≤maxLen)
  (next:R C (.ops all l::k) ((s.newRow i ⟨e,sz,es⟩).put o.dst (.own i))):R C (.ops all (o::l)::k) s:=by
 intro a w E g
 have hv:=bH g x
 rw [hx] at hv
 have g1:=g.row (i:=i) (r':=⟨e,sz,[]⟩) (w':=w) none (Keeps.refl _ _) g.kept (agM _) (fun p hp=>by rw [hr0] at hp; cases hp) (fun _ _ _=>rfl) (.inl ⟨rfl,rfl⟩) (fun b cap h=>by cases h)
 have hr:(s.newRow i ⟨e,sz,[]⟩).row i=some ⟨e,sz,[]⟩:=by rw [St.iG,ab8 rfl]
 refine R.SQ (s:=s.newRow i ⟨e,sz,[]⟩) (r:=⟨e,sz,[]⟩) (es:=es) ho hg hd g1 (fun r hr'=>?_) hr hr0 hy he rfl hz h0 hzero ht hw (by simpa using hb) (by simpa using hm) (by rw [Qu]; simpa using next)
 exact .inl ⟨by simp,aP.aN hv⟩
theorem jD.Fg {Q:List Nat} {tail:List Oper} {l:List (Oper × Option Nat)} {q a b sz d:Nat} {t t' e:TypeId} {es:List PD} (hq:q∈Q) (ho:o.op = .call ⟨.builtin .append,#[.tmp a,.tmp b],#[t,t']⟩) (hg:o.guard=none) (hd:o.dst=some d) (hn:d<s.n) (hx:s.get a = .pd (.raw (.slice none 0 0))) (hr0:C.kK q=none)
  (hy:s.get b = .pd (.list sz es)) (he:fA C.P t=some e) (hz:aV C.P e=sz) (h0:sz≠0) (hzero:(bQ C.P e).map adF=some sz) (ht:t'=t)
  (hw:∀ i,i<es.length→(es.getD i (.ak [])).width=sz) (hb:es.length * kH C.P e≤140737488355328) (hm:es.length≤maxLen)
  (next:jD C all Q tail k l ((s.chain q (some ⟨e,sz,es⟩)).put o.dst (.own q))):jD C all Q tail k ((o,some q)::l) s:=
 have hdo:bW s o:=fun t ht=>by rw [hd] at ht; cases ht; exact hn
 ⟨some ⟨e,sz,es⟩,.own q,hq,.inl rfl,fun s' _ hn' hl hrow h=>by
  have ha:s'.get a = .pd (.raw (.slice none 0 0)):=by rw [hl a (wX (by simp [ho,Op.operands,agt]))]; exact hx
  have hb':s'.get b = .pd (.list sz es):=by rw [hl b (wX (by simp [ho,Op.operands,agt]))]; exact hy
  have hb2:(s'.newRow q ⟨e,sz,[]⟩).get b = .pd (.list sz es):=by
   have:=mX s' q (some ⟨e,sz,[]⟩) b
   rw [hb'] at this
   exact this
  exact R.Vs q sz ho hg (fun t ht=>by rw [hn']; exact hdo t ht) hr0 (by simp only [aW,ha]; rfl) (by simp only [aW,hb2]; rfl) he hz h0 hzero ht hw hb hm h,hdo,by rw [hd]; simp,next⟩
end
end Go.au
namespace Go.Proofs.Z
open Go Go.au Go.Proofs
theorem Ap:aG abo 48:=fun _ _=>by kernel_rfl
def FW (L:List Ans):Prop:=(∀ a∈L,dI a.row)∧L.length≤1000000∧lW L≤1000000000000∧∀ a∈L,∀ w∈a.ways,okW w
abbrev sO (L:List Ans):List Ans:=sortA (dY (gather L))
def zM:Option (List Ans)→List PD
 | some L=>[bT (sO L),B (wG (sO L))]
 | none=>[fC,B false]
def Ld (t:Int) (q:cZ × Nat):List Ans:=if q.1.table=t then [⟨q.1.row,[⟨[(q.2:Int)],[]⟩]⟩] else []
def uQ (t:Int) (facts:List cZ):List Ans:=facts.zipIdx.flatMap (Ld t)
def Vt (t:Int) (q:cZ × Nat):List PD:=if q.1.table=t then [.ak [vals q.1.row,.list 2 [.ak [.list 1 [I q.2],.raw (.slice none 0 0)]]]] else []
def Bd (t:Int) (z:List (cZ × Nat)):List PD:=z.flatMap (Vt t)
theorem YO (t:Int) {z:List (cZ × Nat)} {i:Nat} (h:i<z.length):Bd t (z.take (i+1))=Bd t (z.take i)++if z[i].1.table=t then [.ak [vals z[i].1.row,.list 2 [.ak [.list 1 [I z[i].2],.raw (.slice none 0 0)]]]] else []:=by
 unfold Bd
 rw [abq h,anQ,akg,apt,akw]; rfl
theorem Qv (t:Int):∀ z:List (cZ × Nat),(Bd t z).length≤z.length
 | []=>by simp [Bd]
 | q::z=>by
  have ih:=Qv t z
  unfold Bd at ih ⊢
  rw [akg,agU,agX]
  have:(Vt t q).length≤1:=by unfold Vt; split <;> simp
  omega
theorem agV (t:Int) (facts:List cZ):dV (.list 2 (Bd t facts.zipIdx)) (bT (uQ t facts)):=by
 refine .vw 2 ?_
 unfold Bd uQ
 generalize facts.zipIdx=z
 induction z with
 | nil=>exact .nil
 | cons q z ih=>
  rw [akg,akg,acC]
  refine YI ?_ ih
  unfold Vt Ld
  split
  ·exact .cons (.xU (.cons (.same _) (.cons (.vw 2 (.cons (.xU (.cons (.same _) (.cons (.nil 1) .nil))) .nil)) .nil))) .nil
  ·exact .nil
theorem Q7 {α:Type} (f:α→Bool) {l:List α} {i:Nat} (h:i<l.length):(l.take (i+1)).filter f=(l.take i).filter f++if f l[i]=true then [l[i]] else []:=by
 rw [abq h,anV,amo,List.filter_nil]
theorem FX {α β:Type} (f:α→List β) {l:List α} {i:Nat} (h:i<l.length):(l.take (i+1)).flatMap f=(l.take i).flatMap f++f l[i]:=by
 rw [abq h,anQ,akg,apt,akw]
def Aq (p:Plan) (x:Ans):Ans:=⟨lD x.row p.cols,x.ways⟩
def yG (la lb:List Attr) (x y:Ans):List Ans:=match uX la lb x.row y.row with
 | some row=>[⟨row,dD x.ways y.ways⟩]
 | none=>[]
def iq (la lb:List Attr) (b:List Ans) (x:Ans):List Ans:=b.flatMap (yG la lb x)
theorem Vu (la lb:List Attr) {b:List Ans} (x:Ans) {j:Nat} (h:j<b.length):iq la lb (b.take (j+1)) x=iq la lb (b.take j) x++yG la lb x b[j]:=FX _ h
theorem J9 (la lb:List Attr) (b:List Ans) (x:Ans):(iq la lb b x).length≤b.length:=by
 unfold iq
 induction b with
 | nil=>simp
 | cons y b ih=>
  rw [akg,agU,agX]
  have:(yG la lb x y).length≤1:=by unfold yG; split <;> simp
  omega
theorem Eb {α β:Type} (c:Nat) (f:α→List β):∀ (l:List α),(∀ x∈l,(f x).length≤c)→(l.flatMap f).length≤c * l.length
 | [],_=>by simp
 | x::l,h=>by
  have h1:=h x (adX ..)
  have h2:=Eb c f l fun y hy=>h y (adW _ hy)
  rw [akg,agU,agX,Nat.mul_add,anB]; omega
theorem Nr (la lb:List Attr) {a b:List Ans} (ha:a.length≤1000) (hb:b.length≤1000):(a.flatMap (iq la lb b)).length≤1000000:=by
 have:=Eb 1000 (iq la lb b) a fun x _=>aj2 (J9 la lb b x) hb
 omega
theorem aa4 (l:List Ans) (row:List V):yF l row=match atR l row with
  | none=>[]
  | some k=>((l[k]?).map (·.ways)).getD []:=by
 unfold yF atR
 induction l with
 | nil=>rfl
 | cons a l ih=>
  rw [List.find?_cons,arY]
  cases h:decide (dw a.row row=0) with
  | true=>simp
  | false=>
   simp only [akC,aku]
   rw [ih]
   cases List.findIdx? (fun a=>decide (dw a.row row=0)) l with
   | none=>rfl
   | some k=>simp
def minL (b:List Ans) (x:Ans):Option (List W):=dS x.ways (yF b x.row)
def rE (b:List Ans) (x:Ans):Ans:=⟨x.row,(minL b x).getD []⟩
def Ec (a b:List Ans):Option (List Ans):=if a.all fun x=>(minL b x).isSome then some (a.map (rE b)) else none
theorem YP {a b:List Ans} {x:Ans} (h:x∈a) (hn:minL b x=none):Ec a b=none:=by
 unfold Ec
 rw [abQ]
 intro hall
 have:=agi.1 hall x h
 rw [hn] at this; cases this
theorem YQ {a b:List Ans} (h:∀ x∈a,(minL b x).isSome=true):Ec a b=some (a.map (rE b)):=by
 unfold Ec
 rw [ab8 (agi.2 h)]
def Bf (p:Plan) (facts:List cZ) (ks:List (List Ans)):Option (List Ans):=
 if p.kind=1 then some (uQ p.table facts) else match p.kids,ks with
 | [_],[a]=>if p.kind=2 then some (a.filter fun x=>!ru p x.row) else if p.kind=3 then some (a.map (Aq p)) else some a
 | [k0,k1],[a,b]=>if p.kind=4 then some (a.flatMap (iq k0.attrs k1.attrs b)) else if p.kind=5 then some (a++b) else Ec a b
 | _,_=>none
end Go.Proofs.Z
end
section
namespace Go.Proofs.Z
open Go Go.au Go.Proofs
set_option maxRecDepth 10000
set_option maxHeartbeats 8000000
def sQ (facts:List cZ):Nat→Plan→Option (List Ans)
 | 0,_=>none
 | n+1,p=>match jG (p.kids.map (sQ facts n)) with
  | none=>none
  | some ks=>match Bf p facts ks with
   | none=>none
   | some L=>if wG (sO L)=true then some (sO L) else none
abbrev iw (m:AM):List Ans:=sortA (m.map (·.2))
theorem IK {α β:Type} (f:α→β):∀ l:List (Option α),jG (l.map (ag6 f))=(jG l).map (am9 f)
 | []=>rfl
 | none::l=>rfl
 | some x::l=>by
  simp only [acn,amg,jG]
  rw [IK f l]
  cases jG l <;> rfl
theorem pJ {l m:List Ans} (h:l.Perm m):(dQ l).Perm (dQ m):=h.map _
theorem Ed (l m:List Ans):dQ (l++m)=dQ l++dQ m:=by simp [dQ]
theorem Ho {α:Type} (f:α→List Ans) (l:List α):dQ (l.flatMap f)=l.flatMap fun x=>dQ (f x):=by
 induction l with
 | nil=>rfl
 | cons x l ih=>rw [akg,akg,Ed,ih]
theorem ku (m:AM):(iw m).Perm (m.map (·.2)):=jH _
theorem IL (m:AM):gq m=dQ (m.map (·.2)):=by
 unfold gq dQ
 induction m with
 | nil=>rfl
 | cons q m ih=>rw [akg,ih]; rfl
theorem Gm {L:bD} (h:∀ x∈L,dI x.1):tX L:=fun x hx y hy e=>DY (h x hx) (h y hy) e
structure vF (L M:bD):Prop where
 perm:(dB (bg L)).Perm (dB (bg M))
 ok:iL (bg L)↔iL (bg M)
theorem vF.Tq {L M:bD} (h:L.Perm M) (hv:∀ x∈L,dI x.1):vF L M:=⟨AU h (Gm hv),zD h (Gm hv)⟩
theorem vF.trans {L M N:bD} (h:vF L M) (h2:vF M N):vF L N:=⟨h.perm.trans h2.perm,h.ok.trans h2.ok⟩
def Bg (x:List V × List W):List V × List W:=(x.1,aT x.2)
theorem aa5:aT []=[]:=rfl
theorem vG (n:ByteArray) (L:bD):aT (jV n (L.map Bg))=aT (jV n L):=by
 have h1:jV n (L.map Bg)=L.flatMap fun x=>aT (if rowB x.1=n then x.2 else []):=by
  unfold jV
  rw [avo]
  congr 1
  funext x
  show (if rowB x.1=n then aT x.2 else [])=aT (if rowB x.1=n then x.2 else [])
  by_cases h:rowB x.1=n
  ·rw [ab8 h,ab8 h]
  ·rw [abQ h,abQ h]; exact aa5.symm
 rw [h1]
 exact YE (fun x:List V × List W=>if rowB x.1=n then x.2 else []) L
theorem vF.agW {L:bD} (hv:∀ x∈L,dI x.1):vF (L.map Bg) L:=by
 have hv2:∀ x∈L.map Bg,dI x.1:=fun x hx=>by
  obtain ⟨y,hy,rfl⟩:=acE.1 hx
  exact hv y hy
 have hp:(dB (bg (L.map Bg))).Perm (dB (bg L)):=by
  refine (List.perm_ext_iff_of_nodup (uY (qL (gZ _))) (uY (qL (gZ _)))).2 fun q=>?_
  rw [yA (Gm hv2),yA (Gm hv)]
  constructor
  ·rintro ⟨x,hx,h1,h2⟩
   obtain ⟨y,hy,rfl⟩:=acE.1 hx
   rw [vG] at h1 h2
   exact ⟨y,hy,h1,h2⟩
  ·rintro ⟨x,hx,h1,h2⟩
   exact ⟨Bg x,anl hx,by rw [vG]; exact h1,by rw [vG]; exact h2⟩
 refine ⟨hp,?_⟩
 rw [wQ,wQ,hp.length_eq]
 refine and_congr ⟨fun h x hx=>?_,fun h x hx=>?_⟩ Iff.rfl
 ·have:=h (Bg x) (anl hx)
  rw [vG] at this; exact this
 ·obtain ⟨y,hy,rfl⟩:=acE.1 hx
  rw [vG]; exact h y hy
theorem Tt {L:bD} {M:List Ans} (h:vF L (dQ M)) (hc:((dB (bg L)).map (·.2.row)).Nodup):iw (dB (bg L))=sO M∧(wG (sO M)=true↔iL (bg L)):=by
 have hp:((dB (bg L)).map (·.2)).Perm (dY (gather M)):=by rw [oZ]; exact h.perm.map _
 have hn1:(((dB (bg L)).map (·.2)).map (·.row)).Nodup:=by rw [amk]; exact hc
 have hn2:((dY (gather M)).map (·.row)).Nodup:=((hp.map _).nodup_iff).1 hn1
 refine ⟨Nc (og hn1) (og hn2) fun x=>?_,?_⟩
 ·rw [(jH _).mem_iff,(jH _).mem_iff,hp.mem_iff]
 ·rw [h.ok]
  have hcp:=jH (dY (gather M))
  unfold wG iL
  rw [aj0,ame,agi,hcp.length_eq,oZ,ace,and_comm]
  refine and_congr ⟨fun h p hp=>?_,fun h a ha=>?_⟩ Iff.rfl
  ·by_cases h0:(aT p.2.ways).length=0
   ·omega
   ·have hm:(⟨p.2.row,aT p.2.ways⟩:Ans)∈sO M:=by
     rw [hcp.mem_iff,oZ]
     exact acE.2 ⟨(p.1,⟨p.2.row,aT p.2.ways⟩),aoR.2 ⟨p,hp,by unfold lV; rw [abQ h0]⟩,rfl⟩
    simpa using h _ hm
  ·rw [hcp.mem_iff,oZ] at ha
   obtain ⟨q,hq,rfl⟩:=acE.1 ha
   obtain ⟨p,hp,e⟩:=aoR.1 hq
   unfold lV at e
   split at e
   ·cases e
   ·cases e; simpa using h p hp
theorem aa6 (t:Int) (facts:List cZ):dQ (uQ t facts)=kQ t facts:=by
 unfold uQ kQ
 rw [Ho]
 congr 1
 funext q
 unfold Ld
 split <;> rfl
theorem aa7 {n c:Nat} {m:AM} (h:ig n c m) {row:List V} (hr:dI row):(nV (rowB row) m).getD []=yF (iw m) row:=by
 rcases Qk (iw m) row with ⟨e,hn⟩ | ⟨a,ha,e1,e2⟩
 ·rw [e,rM fun p hp e2=>?_]
  ·rfl
  ·rw [h.name p hp] at e2
   exact hn p.2 ((ku m).mem_iff.2 (anl hp)) (DY (h.valid p hp) hr e2)
 ·obtain ⟨p,hp,rfl⟩:=acE.1 ((ku m).mem_iff.1 ha)
  rw [e2,← e1,← h.name p hp,yw h.nodup hp]; rfl
theorem IQ {n c d:Nat} {m1 m2:AM} (h1:ig n c m1) (h2:ig n d m2) {q:ByteArray × Ans} (hq:q∈m1):iO m2 q=minL (iw m2) q.2:=by
 unfold iO minL
 rw [h1.name q hq,aa7 h2 (h1.valid q hq)]
theorem Q8 (p:Plan) (m:AM):dQ ((m.map (·.2)).filter fun x=>!ru p x.row)=m.flatMap (oK p):=by
 induction m with
 | nil=>rfl
 | cons q m ih=>
  rw [acn,amo,akg,← ih]
  cases h:ru p q.2.row with
  | true=>simp [oK,h]
  | false=>
   simp only [oK,h,apl,akl,akC,aku]
   rfl
theorem adz (p:Plan) (m:AM):dQ ((m.map (·.2)).map (Aq p))=m.flatMap (qW p):=by
 induction m with
 | nil=>rfl
 | cons q m ih=>rw [acn,acn,akg,← ih]; rfl
theorem join_eq (la lb:List Attr) (m1 m2:AM):(dQ ((m1.map (·.2)).flatMap (iq la lb (m2.map (·.2))))).map Bg=m1.flatMap fun q=>m2.flatMap (iM la lb q):=by
 have one:∀ (q:ByteArray × Ans),(dQ (iq la lb (m2.map (·.2)) q.2)).map Bg=m2.flatMap (iM la lb q):=by
  intro q
  unfold iq
  rw [Ho,avo]
  induction m2 with
  | nil=>rfl
  | cons r m2 ih=>
   rw [akg,acC,akg,ih]
   congr 1
   unfold yG iM
   cases uX la lb q.2.row r.2.row <;> rfl
 induction m1 with
 | nil=>rfl
 | cons q m1 ih=>rw [acn,akg,Ed,acC,akg,ih,one]
theorem Vw (la lb:List Attr) {a a' b b':List Ans} (h1:a.Perm a') (h2:b.Perm b'):(a.flatMap (iq la lb b)).Perm (a'.flatMap (iq la lb b')):=
 zH h1 fun x _=>akx _ h2
def Vx (facts:List cZ):Option bD→Option (List Ans)→Prop
 | some L,some M=>vF L (dQ M)∧∀ a∈M,dI a.row
 | none,none=>True
 | _,_=>False
theorem Qw {tl:List bJ} {facts:List cZ} (hf:jZ tl facts) {n:Nat} {p:Plan} (hs:Shape tl n p) {ms:List AM} (hl:ms.length=p.kids.length) (hc:∀ i (h:i<p.kids.length) (h2:i<ms.length),ig facts.length p.kids[i].attrs.length ms[i]):Vx facts (bZ p facts ms) (Bf p facts (ms.map iw)):=by
 have Tv:∀ {L:bD} {M:List Ans} {k c:Nat},Adds k c L→L.Perm (dQ M)→Vx facts (some L) (some M):=fun h hp=>
  ⟨.Tq hp h.valid,fun a ha=>h.valid (a.row,a.ways) (hp.mem_iff.2 (anl (f:=fun a:Ans=>(a.row,a.ways)) ha))⟩
 have ok:=fun L=>wF (L:=L) hf hs hl hc
 unfold bZ at ok ⊢
 unfold Bf
 cases hs with
 | table hk hks h0 h1 hl'=>
  rw [ab8 hk] at ok ⊢
  rw [ab8 hk]
  exact Tv (ok _ rfl) (by rw [aa6])
 | sel hk q hks hq hsv hl'=>
  rw [hks] at hl
  obtain ⟨m,rfl⟩:=ajV.1 hl
  simp only [hk,hks,reduceIte,akD,acn,adR] at ok ⊢
  refine Tv (ok _ rfl) ?_
  rw [← Q8]
  exact pJ ((ku m).symm.filter _)
 | proj hk q hks hq hcc hl'=>
  rw [hks] at hl
  obtain ⟨m,rfl⟩:=ajV.1 hl
  simp only [hk,hks,reduceIte,akD,acn,adR] at ok ⊢
  refine Tv (ok _ rfl) ?_
  rw [← adz]
  exact pJ ((ku m).symm.map _)
 | ren hk q hks hq hl'=>
  rw [hks] at hl
  obtain ⟨m,rfl⟩:=ajV.1 hl
  simp only [hk,hks,reduceIte,akD,acn,adR] at ok ⊢
  refine Tv (ok _ rfl) ?_
  rw [IL]
  exact pJ (ku m).symm
 | union hk q r hks hq hr hl1 hl2=>
  rw [hks] at hl
  obtain ⟨m1,m2,rfl⟩:=jW hl
  simp only [hk,hks,reduceIte,akD,acn,adR] at ok ⊢
  refine Tv (ok _ rfl) ?_
  rw [IL,IL,← Ed]
  exact pJ ((ku m1).symm.append (ku m2).symm)
 | join hk q r hks hq hr hn hj=>
  rw [hks] at hl
  obtain ⟨m1,m2,rfl⟩:=jW hl
  simp only [hk,hks,reduceIte,akD,acn,adR] at ok ⊢
  have hA:=ok _ rfl
  have hv:∀ x∈dQ ((m1.map (·.2)).flatMap (iq q.attrs r.attrs (m2.map (·.2)))),dI x.1:=fun x hx=>
   hA.valid (Bg x) (by rw [← join_eq]; exact anl hx)
  have hp:=Vw q.attrs r.attrs (ku m1) (ku m2)
  refine ⟨?_,fun a ha=>hv (a.row,a.ways) (anl (f:=fun a:Ans=>(a.row,a.ways)) (hp.mem_iff.1 ha))⟩
  rw [← join_eq]
  exact (vF.agW hv).trans (.Tq (pJ hp.symm) hv)
 | minus hk q r hks hq hr hl1 hl2=>
  have c1:=hc 0 (by rw [hks]; simp) (by rw [hl,hks]; simp)
  have c2:=hc 1 (by rw [hks]; simp) (by rw [hl,hks]; simp)
  rw [hks] at hl
  obtain ⟨m1,m2,rfl⟩:=jW hl
  simp only [List.getElem_cons_zero,amx] at c1 c2
  simp only [hk,hks,reduceIte,akD,acn,adR] at ok ⊢
  have hall:(m1.all fun q=>(iO m2 q).isSome)=(iw m1).all fun x=>(minL (iw m2) x).isSome:=by
   rw [anA,agi,agi]
   constructor
   ·intro h x hx
    obtain ⟨q,hq,rfl⟩:=acE.1 ((ku m1).mem_iff.1 hx)
    rw [← IQ c1 c2 hq]; exact h q hq
   ·intro h q hq
    rw [IQ c1 c2 hq]; exact h q.2 ((ku m1).mem_iff.2 (anl hq))
  unfold Ec
  cases h:(iw m1).all fun x=>(minL (iw m2) x).isSome with
  | false=>rw [hall,h]; simp [Vx]
  | true=>
   rw [hall,h] at ok ⊢
   simp only [akl] at ok ⊢
   refine Tv (ok _ rfl) ?_
   have e:m1.flatMap (jU m2)=dQ ((m1.map (·.2)).map (rE (iw m2))):=by
    clear ok hc hl h hall
    have:∀ l:AM,(∀ q∈l,q∈m1)→l.flatMap (jU m2)=dQ ((l.map (·.2)).map (rE (iw m2))):=by
     intro l
     induction l with
     | nil=>intro _; rfl
     | cons q l ih=>
      intro hq
      rw [akg,ih fun r hr=>hq r (adW _ hr)]
      unfold jU
      rw [IQ c1 c2 (hq q (adX ..))]; rfl
    exact this m1 fun q hq=>hq
   rw [e]
   exact pJ ((ku m1).symm.map _)
theorem Ee {tl:List bJ} {facts:List cZ} (hf:jZ tl facts):∀ (n:Nat) (p:Plan),aX n tl p=true→grp p=false→sQ facts n p=(kZ facts n p).map iw
 | 0,p,hv,_=>by simp [aX] at hv
 | n+1,p,hv,hg=>by
  obtain ⟨h8,hgk⟩:=zF hg
  have hs:=rP hv h8
  have e:p.kids.map (sQ facts n)=(p.kids.map (kZ facts n)).map (ag6 iw):=by
   rw [amk]
   exact akh fun q hq=>Ee hf n q (hs.kids q hq) (hgk q hq)
  rw [sQ,kZ,e,IK]
  cases h:jG (p.kids.map (kZ facts n)) with
  | none=>rfl
  | some ms=>
   simp only [amg]
   obtain ⟨hl,h4⟩:=wS (nC.1 h)
   have hc:∀ i (h:i<p.kids.length) (h2:i<ms.length),ig facts.length p.kids[i].attrs.length ms[i]:=fun i hi hi2=>
    tZ hf n _ _ (hs.kids _ (ab5 hi)) (hgk _ (ab5 hi)) (JY n _ _ (h4 i hi hi2))
   have hsame:=Qw hf hs hl hc
   cases h1:bZ p facts ms with
   | none=>
    cases h2:Bf p facts (ms.map iw) with
    | none=>rfl
    | some M=>rw [h1,h2] at hsame; exact hsame.elim
   | some L=>
    cases h2:Bf p facts (ms.map iw) with
    | none=>rw [h1,h2] at hsame; exact hsame.elim
    | some M=>
     rw [h1,h2] at hsame
     obtain ⟨hS,_⟩:=hsame
     have hA:=wF hf hs hl hc h1
     by_cases ho:iL (bg L)
     ·obtain ⟨e1,e2⟩:=Tt hS (by have:=(hA.clo ho).rows; rwa [amk] at this)
      simp only [ab8 ho,ab8 (e2.2 ho),amg,e1]
     ·have hno:¬ wG (sO M)=true:=by
       intro hfw
       refine ho ((hS.ok).2 ?_)
       have hn:((dB (bg (dQ M))).map (·.2.row)).Nodup:=by
        have:=FV (l:=M) (by assumption)
        have h5:=this.sublist (wV _)
        rw [oZ,amk] at h5
        exact h5
       exact (Tt (L:=dQ M) ⟨.refl _,Iff.rfl⟩ hn).2.1 hfw
      simp only [abQ ho,abQ hno,Option.map_none]
theorem YR (p:Plan) (facts:List cZ) (ks:List (List Ans)) (hk:p.kind=1) (hkl:p.kids.length≤2) (hl:ks.length=p.kids.length) (ih:∀ i (h:i<p.kids.length) (h2:i<ks.length),aQ abo 48 [.pd (plan p.kids[i]),.pd (dh facts)] [bT ks[i],B true]) (hks:ks=[]) (hf:facts.length≤4000) (hL:FW (uQ p.table facts)):aQ abo 48 [.pd (plan p),.pd (dh facts)] (zM (some (uQ p.table facts))):=by
 have q1:(p.kind == 1)=true:=by simp [hk]
 rw [aF p]
 refine aQ.mk Tryz.func48 rfl Ap (by simp [Tryz.ntmps48]) fun w G=>?_
 refine aMD ?_
 refine R.fJ 6 6 33 1 (by (simp only [go_sem])) rfl rfl ?_
 simp only [go_sem]
 apply ah; simp only [go_sem]
 refine R.fU (fun (i:Nat) s=>St.lp [1,2] [(7,.pd (I i)),(6,.own 6)] [2,19] [] [] [(6,⟨33,1,(ks.take i).map bT⟩)] s) (fun (i:Nat)=>i≤p.kids.length) (fun (i:Nat)=>p.kids.length - i) (0) (by omega) ?_
 rintro i hi
 by_cases aZ:i<p.kids.length
 ·have e1:decide ((i:Int)<(p.kids.length:Int))=true:=by simp; omega
  have hlk:i<ks.length:=by omega
  have hsn:(ks.take (i+1)).map bT=(ks.take i).map bT++[bT ks[i]]:=by rw [abq hlk,acC]; rfl
  apply ah; simp only [go_sem,↓reduceIte,e1,getD_map,aZ,kY,mZ]
  repeat refine ⟨by omega,?_⟩
  refine R.kW (ih i aZ hlk) rfl rfl (.cons (.pd _) (.cons (.pd _) (.nil))) ?_
  refine aME ?_
  refine R.aY 1000000000000 24 rfl rfl (by (simp only [go_sem])) rfl rfl rfl rfl Du rfl zh (by simp) (congrArg (ag6 adF) Dq) rfl Dp (by simp; omega) (by decide) (by decide) ?_
  apply ah; simp only [go_sem,↓reduceIte,wrapN (k:=i) (by omega)]
  refine R.fE (i+1) (by omega) (l:=by (simp only [go_sem,hsn]); all_goals (and_intros <;> rfl))
 have e0:decide ((i:Int)<(p.kids.length:Int))=false:=by simp; omega
 have hke:ks.take i=ks:=abT (by omega)
 clear aZ
 simp only [go_sem,hke]
 subst hks
 refine R.bP 6 rfl rfl ?_
 simp only [go_sem]
 apply ah; simp only [go_sem,↓reduceIte,e0,q1]
 repeat refine ⟨by omega,?_⟩
 refine R.fJ 10 10 39 2 (by (simp only [go_sem])) rfl rfl ?_
 simp only [go_sem]
 refine R.fU (fun (i:Nat) s=>St.lp [1,2,4,5,6,46] [(11,.pd (I i)),(10,.own 10)] [2,19] [] [] [(10,⟨39,2,Bd p.table (facts.zipIdx.take i)⟩)] s) (fun (i:Nat)=>i≤facts.length) (fun (i:Nat)=>facts.length - i) (0) (by omega) ?_
 rintro i hi
 by_cases aZ:i<facts.length
 ·have e1:decide ((i:Int)<(facts.length:Int))=true:=by simp; omega
  have hzi:i<facts.zipIdx.length:=by simpa using aZ
  have hsn:=YO p.table hzi
  have hTl:=Qv p.table (facts.zipIdx.take i)
  rw [ako] at hTl
  generalize Bd p.table (facts.zipIdx.take i)=T at hsn hTl
  simp only [aoE,akF] at hsn
  apply ah; simp only [go_sem,↓reduceIte,e1]
  repeat refine ⟨by omega,?_⟩
  refine R.aO 7 80 mixed (by decide +kernel) ?_; simp only [go_sem,getD_map,aZ]
  repeat refine ⟨by omega,?_⟩
  by_cases ht:facts[i].table=p.table
  ·have e2:(facts[i].table == p.table)=true:=by simpa using ht
   rw [ab8 ht] at hsn
   apply ah; simp only [go_sem,↓reduceIte,e2,getD_map,aZ]
   repeat refine ⟨by omega,?_⟩
   refine R.aY 1000000000000 48 rfl rfl (by (simp only [go_sem])) rfl rfl rfl rfl zi rfl xO (by simp) (congrArg (ag6 adF) zl) rfl zk (by simp; omega) (by decide) (by decide) ?_
   apply ah; simp only [go_sem,↓reduceIte,wrapN (k:=i) (by omega)]
   refine R.fE (i+1) (by omega) (l:=by (simp only [go_sem,hsn]); all_goals (and_intros <;> rfl))
  ·have e2:(facts[i].table == p.table)=false:=by simpa using ht
   rw [abQ ht,akw] at hsn
   apply ah; simp only [go_sem,↓reduceIte,e2,wrapN (k:=i) (by omega)]
   refine R.fE (i+1) (by omega) (l:=by (simp only [go_sem,hsn]); all_goals (and_intros <;> rfl))
 ·have e1:decide ((i:Int)<(facts.length:Int))=false:=by simp; omega
  have hke2:facts.zipIdx.take i=facts.zipIdx:=abT (by simp; omega)
  apply ah; simp only [go_sem,↓reduceIte,e1,hke2]
  refine R.bP 10 rfl rfl ?_
  simp only [go_sem]
  refine R.Am 277 (by (simp only [go_sem])) rfl (agV p.table facts) ?_
  simp only [go_sem]
  refine R.kW (oO _ hL.1 hL.2.1 hL.2.2.1 hL.2.2.2) rfl rfl (.cons (.pd _) (.nil)) ?_
  refine aME ?_
  refine R.kC (sN _) rfl rfl (.cons (.pd _) (.nil)) ?_
  refine aME ?_
  refine R.rW ?_
  rfl
end Go.Proofs.Z
end
