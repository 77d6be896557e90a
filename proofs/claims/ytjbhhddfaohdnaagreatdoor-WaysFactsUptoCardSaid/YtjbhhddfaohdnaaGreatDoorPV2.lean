/- A part of the proof. -/
import Derived.Test.YtjbhhddfaohdnaaGreatDoorPV1
set_option linter.all false
set_option linter.deprecated false
open Go.Proofs.Tryz renaming prog→aai,results196→awF
open Go.Value.bool renaming injEq→agb
open Go.Value.int renaming injEq→agk
namespace Go.Proofs.Z
open Go Go.au Go.Proofs
set_option maxRecDepth 10000
set_option maxHeartbeats 4000000
theorem akZ:aH aai 83:=fun _ _=>by kernel_rfl
theorem ahe:aH aai 291:=fun _ _=>by kernel_rfl
theorem ahf:aH aai 292:=fun _ _=>by kernel_rfl
theorem ahg:aH aai 293:=fun _ _=>by kernel_rfl
theorem ahh:aH aai 294:=fun _ _=>by kernel_rfl
theorem ahi:aH aai 253:=fun _ _=>by kernel_rfl
theorem ahj:aH aai 196:=fun _ _=>by kernel_rfl
def BX (kind:Int) (v:V):Bool:=dI v&&(v.kind == 0 || v.kind == kind)
theorem Y1 (kind:Int) (v:V):aC aai 83 [.pd (I kind),.pd (val v)] [B (BX kind v)]:=by
 refine aC.mk Tryz.func83 rfl akZ (by simp [Tryz.ntmps83]) fun w G=>?_
 (refine dB [(6,.of (oO v))] 120 _ _ ?_; simp only [go_sem,Go.au.eu,jd,↓reduceIte,aau,SV.pd.injEq,PD.raw.injEq,agb,agk,Tryz.results83])
 unfold BX
 cases dI v <;> cases (v.kind == 0) <;> simp
theorem aeW (c:Int):aC aai 291 [.pd (I c)] [B (c == 0)]:=by
 refine aC.mk Tryz.func291 rfl ahe (by simp [Tryz.ntmps291]) fun w G=>?_
 (refine dB [] 120 _ _ ?_; simp only [go_sem,Go.au.eu,jd,↓reduceIte,aau,SV.pd.injEq,PD.raw.injEq,agb,agk,Tryz.results291])
theorem aeX (c:Int):aC aai 292 [.pd (I c)] [B (c != 0)]:=by
 refine aC.mk Tryz.func292 rfl ahf (by simp [Tryz.ntmps292]) fun w G=>?_
 (refine dB [] 120 _ _ ?_; simp only [go_sem,Go.au.eu,jd,↓reduceIte,aau,SV.pd.injEq,PD.raw.injEq,agb,agk,Tryz.results292])
theorem aeY (c:Int):aC aai 293 [.pd (I c)] [B (decide (c<0))]:=by
 refine aC.mk Tryz.func293 rfl ahg (by simp [Tryz.ntmps293]) fun w G=>?_
 (refine dB [] 120 _ _ ?_; simp only [go_sem,Go.au.eu,jd,↓reduceIte,aau,SV.pd.injEq,PD.raw.injEq,agb,agk,Tryz.results293])
theorem aeZ (c:Int):aC aai 294 [.pd (I c)] [B (decide (c≤0))]:=by
 refine aC.mk Tryz.func294 rfl ahh (by simp [Tryz.ntmps294]) fun w G=>?_
 (refine dB [] 120 _ _ ?_; simp only [go_sem,Go.au.eu,jd,↓reduceIte,aau,SV.pd.injEq,PD.raw.injEq,agb,agk,Tryz.results294])
def comps:List (Int × Nat):=[(1,291),(2,292),(3,293),(4,294)]
abbrev anU (p:Int × Nat):PD:=.ak [I p.1,.raw (.func (.func p.2) #[] #[])]
def xG (op c:Int):Bool:=if op=1 then c == 0 else if op=2 then c != 0 else if op=3 then decide (c<0) else if op=4 then decide (c≤0) else false
theorem Ep (p:Int × Nat) (hp:p∈comps) (c:Int):aC aai p.2 [.pd (I c)] [B (xG p.1 c)]:=by
 simp only [comps,agB,auS,arL] at hp
 rcases hp with rfl | rfl | rfl | rfl
 ·exact aeW c
 ·exact aeX c
 ·exact aeY c
 ·exact aeZ c
theorem Nh:aC aai 253 [] [.list 2 (comps.map anU)]:=by
 refine aC.mk Tryz.func253 rfl ahi (by simp [Tryz.ntmps253]) fun w G=>?_
 (refine dB [] 120 _ _ ?_; simp only [go_sem,Go.au.eu,jd,↓reduceIte,aau,SV.pd.injEq,PD.raw.injEq,agb,agk,Tryz.results253,comps])
def jc (a:V) (op:Int) (b:V) (add:Int):Bool:=
 if !dI a || !dI b || a.kind != b.kind then false
 else if a.kind=2∨a.kind=3 then xG op (bZ (a.n - b.n) add)
 else if a.kind=1∨a.kind=4 then (if add≠0 then false else xG op (nZ a b)) else false
theorem Rw {v:V} (h:dI v=true):-1000000000≤v.n∧v.n≤1000000000:=by
 unfold dI AO at h
 split at h
 ·cases h
 ·split at h
  ·simp at h; omega
  ·split at h
   ·simp at h; omega
   ·split at h
    ·simp at h; omega
    ·split at h
     ·simp at h; omega
     ·split at h
      ·simp at h; omega
      ·cases h
theorem Es {op:Int} (h:∀ j (h:j<comps.length),comps[j].1≠op) (c:Int):xG op c=false:=by
 have h1:=h 0 (by decide); have h2:=h 1 (by decide); have h3:=h 2 (by decide); have h4:=h 3 (by decide)
 simp only [comps,List.getElem_cons_zero,List.getElem_cons_succ] at h1 h2 h3 h4
 simp [xG,aqm h1,aqm h2,aqm h3,aqm h4]
theorem Nj (a:V) (op:Int) (b:V) (add:Int):aC aai 196 [.pd (val a),.pd (I op),.pd (val b),.pd (I add)] [B (jc a op b add)]:=by
 refine aC.mk Tryz.func196 rfl ahj (by simp [Tryz.ntmps196]) fun w G=>?_
 cases ha:dI a with
 | false=>
  (refine dB [(13,.of (oO a))] 120 _ _ ?_; simp only [go_sem,Go.au.eu,jd,↓reduceIte,aau,SV.pd.injEq,PD.raw.injEq,agb,agk,awF,ha])
  simp [jc,ha]
 | true=>
  cases hb:dI b with
  | false=>
   (refine dB [(13,.of (oO a)),(17,.of (oO b))] 120 _ _ ?_; simp only [go_sem,Go.au.eu,jd,↓reduceIte,aau,SV.pd.injEq,PD.raw.injEq,agb,agk,awF,ha,hb])
   simp [jc,hb]
  | true=>
   have h1:=Rw ha
   have h2:=Rw hb
   have hwr:IntKind.i64.wrap (a.n - b.n)=a.n - b.n:=wrap64 (by omega) (by omega)
   (refine dB [(13,.of (oO a)),(17,.of (oO b)),(38,.of (AQ (a.n - b.n) add)),(46,.of (IW a b)),(47,.of (Nh))] 120 _ _ ?_; simp only [go_sem,Go.au.eu,jd,↓reduceIte,aau,SV.pd.injEq,PD.raw.injEq,agb,agk,awF,ha,hb,hwr])
   split
   ·rename_i hk; simp [jc,hk]
   rename_i hk
   have hk:(a.kind != b.kind)=false:=by simpa using hk
   split
   ·rename_i k2
    have ht:jc a op b add=xG op (bZ (a.n - b.n) add):=by
     have:a.kind=2:=by simpa using k2
     simp only [jc,ha,hb,hk]; simp [this]
    refine R.fU (fun (k:Nat) s=>St.lp [0,1,2,3,4,6,9,12,13,14,15,16,17,18,19,20,21,22,23,24,25,26,27,28,29,30,31,32,33,34,35,36,37,38,39,40,41,42,43,44,45,46,47,48] [(49,.pd (I k))] [4,6] [] [] [] s) (fun (k:Nat)=>k≤comps.length∧∀ j (h:j<comps.length),j<k→comps[j].1≠op) (fun (k:Nat)=>comps.length - k) (0) (⟨by omega,by intros; omega⟩) ?_
    rintro k ⟨hk,hinv⟩
    apply aB; simp only [go_sem,aau,SV.pd.injEq]
    refine ⟨fun h=>?_,fun h=>?_⟩
    ·have hlt:k<comps.length:=by simpa using h
     have h4:comps.length=4:=rfl
     apply aB; simp only [go_sem,aau,SV.pd.injEq,getD_map,hlt]
     refine ⟨by omega,fun h2=>?_,fun h2=>?_⟩
     ·apply aB; simp only [go_sem,aau,SV.pd.injEq]
      refine R.y rfl (ah (by (simp only [go_sem]))) (.gI 58 comps[k].2 _ _ [.pd (I (bZ (a.n - b.n) add))] [B (xG comps[k].1 (bZ (a.n - b.n) add))] false rfl rfl (.cons (.pd _) .nil) (Ep comps[k] (aaO hlt) _) (by simp)) ?_
      apply aB; simp only [go_sem,aau,SV.pd.injEq]
      refine R.rC ?_
      have h2:comps[k].1=op:=by simpa using h2
      rw [ht,← h2]; rfl
     ·apply aB; simp only [go_sem,aau,SV.pd.injEq,wrapN (k:=k) (by omega)]
      refine R.fE (k+1) ⟨by omega,fun j hj hjk=>?_⟩
      rcases apf j k with c1 | c1
      ·exact hinv j hj c1
      ·obtain rfl:j=k:=by omega
       simpa using h2
    ·have hge:¬ k<comps.length:=by simpa using h
     apply aB; simp only [go_sem,aau,SV.pd.injEq]
     refine R.rC ?_
     rw [ht,Es (fun j hj=>hinv j hj (by omega))]; rfl
   rename_i k2
   have k2:a.kind≠2:=by simpa using k2
   split
   ·rename_i k3
    have ht:jc a op b add=xG op (bZ (a.n - b.n) add):=by
     have:a.kind=3:=by simpa using k3
     simp only [jc,ha,hb,hk]; simp [this]
    refine R.fU (fun (k:Nat) s=>St.lp [0,1,2,3,4,6,9,12,13,14,15,16,17,18,19,20,21,22,23,24,25,26,27,28,29,30,31,32,33,34,35,36,37,38,39,40,41,42,43,44,45,46,47,48] [(49,.pd (I k))] [4,6] [] [] [] s) (fun (k:Nat)=>k≤comps.length∧∀ j (h:j<comps.length),j<k→comps[j].1≠op) (fun (k:Nat)=>comps.length - k) (0) (⟨by omega,by intros; omega⟩) ?_
    rintro k ⟨hk,hinv⟩
    apply aB; simp only [go_sem,aau,SV.pd.injEq]
    refine ⟨fun h=>?_,fun h=>?_⟩
    ·have hlt:k<comps.length:=by simpa using h
     have h4:comps.length=4:=rfl
     apply aB; simp only [go_sem,aau,SV.pd.injEq,getD_map,hlt]
     refine ⟨by omega,fun h2=>?_,fun h2=>?_⟩
     ·apply aB; simp only [go_sem,aau,SV.pd.injEq]
      refine R.y rfl (ah (by (simp only [go_sem]))) (.gI 58 comps[k].2 _ _ [.pd (I (bZ (a.n - b.n) add))] [B (xG comps[k].1 (bZ (a.n - b.n) add))] false rfl rfl (.cons (.pd _) .nil) (Ep comps[k] (aaO hlt) _) (by simp)) ?_
      apply aB; simp only [go_sem,aau,SV.pd.injEq]
      refine R.rC ?_
      have h2:comps[k].1=op:=by simpa using h2
      rw [ht,← h2]; rfl
     ·apply aB; simp only [go_sem,aau,SV.pd.injEq,wrapN (k:=k) (by omega)]
      refine R.fE (k+1) ⟨by omega,fun j hj hjk=>?_⟩
      rcases apf j k with c1 | c1
      ·exact hinv j hj c1
      ·obtain rfl:j=k:=by omega
       simpa using h2
    ·have hge:¬ k<comps.length:=by simpa using h
     apply aB; simp only [go_sem,aau,SV.pd.injEq]
     refine R.rC ?_
     rw [ht,Es (fun j hj=>hinv j hj (by omega))]; rfl
   rename_i k3
   have k3:a.kind≠3:=by simpa using k3
   split
   ·rename_i k1
    have k1:a.kind=1:=by simpa using k1
    split
    ·rename_i hadd
     simp only [jc,ha,hb,hk]; simp [k1,show add≠0 by simpa using hadd]
    ·rename_i hadd
     have ht:jc a op b add=xG op (nZ a b):=by
      simp only [jc,ha,hb,hk]; simp [k1,show add=0 by simpa using hadd]
     refine R.fU (fun (k:Nat) s=>St.lp [0,1,2,3,4,6,9,12,13,14,15,16,17,18,19,20,21,22,23,24,25,26,27,28,29,30,31,32,33,34,35,36,37,38,39,40,41,42,43,44,45,46,47,48] [(49,.pd (I k))] [4,6] [] [] [] s) (fun (k:Nat)=>k≤comps.length∧∀ j (h:j<comps.length),j<k→comps[j].1≠op) (fun (k:Nat)=>comps.length - k) (0) (⟨by omega,by intros; omega⟩) ?_
     rintro k ⟨hk,hinv⟩
     apply aB; simp only [go_sem,aau,SV.pd.injEq]
     refine ⟨fun h=>?_,fun h=>?_⟩
     ·have hlt:k<comps.length:=by simpa using h
      have h4:comps.length=4:=rfl
      apply aB; simp only [go_sem,aau,SV.pd.injEq,getD_map,hlt]
      refine ⟨by omega,fun h2=>?_,fun h2=>?_⟩
      ·apply aB; simp only [go_sem,aau,SV.pd.injEq]
       refine R.y rfl (ah (by (simp only [go_sem]))) (.gI 58 comps[k].2 _ _ [.pd (I (nZ a b))] [B (xG comps[k].1 (nZ a b))] false rfl rfl (.cons (.pd _) .nil) (Ep comps[k] (aaO hlt) _) (by simp)) ?_
       apply aB; simp only [go_sem,aau,SV.pd.injEq]
       refine R.rC ?_
       have h2:comps[k].1=op:=by simpa using h2
       rw [ht,← h2]; rfl
      ·apply aB; simp only [go_sem,aau,SV.pd.injEq,wrapN (k:=k) (by omega)]
       refine R.fE (k+1) ⟨by omega,fun j hj hjk=>?_⟩
       rcases apf j k with c1 | c1
       ·exact hinv j hj c1
       ·obtain rfl:j=k:=by omega
        simpa using h2
     ·have hge:¬ k<comps.length:=by simpa using h
      apply aB; simp only [go_sem,aau,SV.pd.injEq]
      refine R.rC ?_
      rw [ht,Es (fun j hj=>hinv j hj (by omega))]; rfl
   rename_i k1
   have k1:a.kind≠1:=by simpa using k1
   split
   ·rename_i k4
    have k4:a.kind=4:=by simpa using k4
    split
    ·rename_i hadd
     simp only [jc,ha,hb,hk]; simp [k4,show add≠0 by simpa using hadd]
    ·rename_i hadd
     have ht:jc a op b add=xG op (nZ a b):=by
      simp only [jc,ha,hb,hk]; simp [k4,show add=0 by simpa using hadd]
     refine R.fU (fun (k:Nat) s=>St.lp [0,1,2,3,4,6,9,12,13,14,15,16,17,18,19,20,21,22,23,24,25,26,27,28,29,30,31,32,33,34,35,36,37,38,39,40,41,42,43,44,45,46,47,48] [(49,.pd (I k))] [4,6] [] [] [] s) (fun (k:Nat)=>k≤comps.length∧∀ j (h:j<comps.length),j<k→comps[j].1≠op) (fun (k:Nat)=>comps.length - k) (0) (⟨by omega,by intros; omega⟩) ?_
     rintro k ⟨hk,hinv⟩
     apply aB; simp only [go_sem,aau,SV.pd.injEq]
     refine ⟨fun h=>?_,fun h=>?_⟩
     ·have hlt:k<comps.length:=by simpa using h
      have h4:comps.length=4:=rfl
      apply aB; simp only [go_sem,aau,SV.pd.injEq,getD_map,hlt]
      refine ⟨by omega,fun h2=>?_,fun h2=>?_⟩
      ·apply aB; simp only [go_sem,aau,SV.pd.injEq]
       refine R.y rfl (ah (by (simp only [go_sem]))) (.gI 58 comps[k].2 _ _ [.pd (I (nZ a b))] [B (xG comps[k].1 (nZ a b))] false rfl rfl (.cons (.pd _) .nil) (Ep comps[k] (aaO hlt) _) (by simp)) ?_
       apply aB; simp only [go_sem,aau,SV.pd.injEq]
       refine R.rC ?_
       have h2:comps[k].1=op:=by simpa using h2
       rw [ht,← h2]; rfl
      ·apply aB; simp only [go_sem,aau,SV.pd.injEq,wrapN (k:=k) (by omega)]
       refine R.fE (k+1) ⟨by omega,fun j hj hjk=>?_⟩
       rcases apf j k with c1 | c1
       ·exact hinv j hj c1
       ·obtain rfl:j=k:=by omega
        simpa using h2
     ·have hge:¬ k<comps.length:=by simpa using h
      apply aB; simp only [go_sem,aau,SV.pd.injEq]
      refine R.rC ?_
      rw [ht,Es (fun j hj=>hinv j hj (by omega))]; rfl
   ·rename_i k4
    have k4:a.kind≠4:=by simpa using k4
    simp only [jc,ha,hb,hk]; simp [k1,k2,k3,k4]
end Go.Proofs.Z
