/- A part of the proof. -/
import Derived.Test.YtjbhhddfaohdnaaGreatDoorPV1
set_option linter.all false
set_option linter.deprecated false
open Go.Proofs.Tryz renaming prog→abo,results196→asY
open Go.Value.bool renaming injEq→akp
namespace Go.Proofs.Z
open Go Go.au Go.Proofs
set_option maxRecDepth 10000
set_option maxHeartbeats 4000000
theorem aie:aG abo 83:=fun _ _=>by kernel_rfl
theorem aem:aG abo 291:=fun _ _=>by kernel_rfl
theorem aen:aG abo 292:=fun _ _=>by kernel_rfl
theorem aeo:aG abo 293:=fun _ _=>by kernel_rfl
theorem aep:aG abo 294:=fun _ _=>by kernel_rfl
theorem aer:aG abo 253:=fun _ _=>by kernel_rfl
theorem aes:aG abo 196:=fun _ _=>by kernel_rfl
def pU (kind:Int) (v:V):Bool:=dF v&&(v.kind == 0 || v.kind == kind)
theorem Xj (kind:Int) (v:V):aA abo 83 [.pd (I kind),.pd (val v)] [B (pU kind v)]:=by
 refine aA.mk Tryz.func83 rfl aie (by simp [Tryz.ntmps83]) fun w G=>?_
 (refine bK [(6,.of (oI v))] 120 _ _ ?_; simp only [go_sem,Go.au.dR,gX,↓reduceIte,agk,PD.raw.injEq,akp,Tryz.results83])
 unfold pU
 cases dF v <;> cases (v.kind == 0) <;> simp
theorem ac0 (c:Int):aA abo 291 [.pd (I c)] [B (c == 0)]:=by
 refine aA.mk Tryz.func291 rfl aem (by simp [Tryz.ntmps291]) fun w G=>?_
 (refine bK [] 120 _ _ ?_; simp only [go_sem,Go.au.dR,gX,↓reduceIte,Tryz.results291])
theorem ac1 (c:Int):aA abo 292 [.pd (I c)] [B (c != 0)]:=by
 refine aA.mk Tryz.func292 rfl aen (by simp [Tryz.ntmps292]) fun w G=>?_
 (refine bK [] 120 _ _ ?_; simp only [go_sem,Go.au.dR,gX,↓reduceIte,Tryz.results292])
theorem ac2 (c:Int):aA abo 293 [.pd (I c)] [B (decide (c<0))]:=by
 refine aA.mk Tryz.func293 rfl aeo (by simp [Tryz.ntmps293]) fun w G=>?_
 (refine bK [] 120 _ _ ?_; simp only [go_sem,Go.au.dR,gX,↓reduceIte,Tryz.results293])
theorem ac3 (c:Int):aA abo 294 [.pd (I c)] [B (decide (c≤0))]:=by
 refine aA.mk Tryz.func294 rfl aep (by simp [Tryz.ntmps294]) fun w G=>?_
 (refine bK [] 120 _ _ ?_; simp only [go_sem,Go.au.dR,gX,↓reduceIte,Tryz.results294])
def comps:List (Int × Nat):=[(1,291),(2,292),(3,293),(4,294)]
abbrev alb (p:Int × Nat):PD:=.ak [I p.1,.raw (.func (.func p.2) #[] #[])]
def xA (op c:Int):Bool:=if op=1 then c == 0 else if op=2 then c != 0 else if op=3 then decide (c<0) else if op=4 then decide (c≤0) else false
theorem Dy (p:Int × Nat) (hp:p∈comps) (c:Int):aA abo p.2 [.pd (I c)] [B (xA p.1 c)]:=by
 simp only [comps,aj6,asB,arz] at hp
 rcases hp with rfl | rfl | rfl | rfl
 ·exact ac0 c
 ·exact ac1 c
 ·exact ac2 c
 ·exact ac3 c
theorem Kz:aA abo 253 [] [.list 2 (comps.map alb)]:=by
 refine aA.mk Tryz.func253 rfl aer (by simp [Tryz.ntmps253]) fun w G=>?_
 (refine bK [] 120 _ _ ?_; simp only [go_sem,Go.au.dR,gX,↓reduceIte,Tryz.results253,comps])
def iy (a:V) (op:Int) (b:V) (add:Int):Bool:=
 if !dF a || !dF b || a.kind != b.kind then false
 else if a.kind=2∨a.kind=3 then xA op (bI (a.n - b.n) add)
 else if a.kind=1∨a.kind=4 then (if add≠0 then false else xA op (nI a b)) else false
theorem Dz {v:V} (h:dF v=true):-1000000000≤v.n∧v.n≤1000000000:=by
 unfold dF zo at h
 split at h
 ·cases h
 ·split at h
  ·simp at h; omega
  ·split at h
   ·simp at h; omega
   ·split at h
    ·simp at h; omega
    ·split at h
     ·simp at h; omega
     ·split at h
      ·simp at h; omega
      ·cases h
theorem DC {op:Int} (h:∀ j (h:j<comps.length),comps[j].1≠op) (c:Int):xA op c=false:=by
 have h1:=h 0 (by decide); have h2:=h 1 (by decide); have h3:=h 2 (by decide); have h4:=h 3 (by decide)
 simp only [comps,List.getElem_cons_zero,List.getElem_cons_succ] at h1 h2 h3 h4
 simp [xA,anj h1,anj h2,anj h3,anj h4]
theorem Sm (a:V) (op:Int) (b:V) (add:Int):aA abo 196 [.pd (val a),.pd (I op),.pd (val b),.pd (I add)] [B (iy a op b add)]:=by
 refine aA.mk Tryz.func196 rfl aes (by simp [Tryz.ntmps196]) fun w G=>?_
 cases ha:dF a with
 | false=>
  (refine bK [(13,.of (oI a))] 120 _ _ ?_; simp only [go_sem,Go.au.dR,gX,↓reduceIte,agk,PD.raw.injEq,akp,asY,ha])
  simp [iy,ha]
 | true=>
  cases hb:dF b with
  | false=>
   (refine bK [(13,.of (oI a)),(17,.of (oI b))] 120 _ _ ?_; simp only [go_sem,Go.au.dR,gX,↓reduceIte,agk,PD.raw.injEq,akp,asY,ha,hb])
   simp [iy,hb]
  | true=>
   have h1:=Dz ha
   have h2:=Dz hb
   have hwr:IntKind.i64.wrap (a.n - b.n)=a.n - b.n:=wrap64 (by omega) (by omega)
   (refine bK [(13,.of (oI a)),(17,.of (oI b)),(38,.of (zV (a.n - b.n) add)),(46,.of (GU a b)),(47,.of (Kz))] 120 _ _ ?_; simp only [go_sem,Go.au.dR,gX,↓reduceIte,agk,PD.raw.injEq,akp,asY,ha,hb,hwr])
   split
   ·rename_i hk; simp [iy,hk]
   rename_i hk
   have hk:(a.kind != b.kind)=false:=by simpa using hk
   split
   ·rename_i k2
    have ht:iy a op b add=xA op (bI (a.n - b.n) add):=by
     have:a.kind=2:=by simpa using k2
     simp only [iy,ha,hb,hk]; simp [this]
    refine R.fU (fun (k:Nat) s=>St.lp [0,1,2,3,4,6,9,12,13,14,15,16,17,18,19,20,21,22,23,24,25,26,27,28,29,30,31,32,33,34,35,36,37,38,39,40,41,42,43,44,45,46,47,48] [(49,.pd (I k))] [4,6] [] [] [] s) (fun (k:Nat)=>k≤comps.length∧∀ j (h:j<comps.length),j<k→comps[j].1≠op) (fun (k:Nat)=>comps.length - k) (0) (⟨by omega,by intros; omega⟩) ?_
    rintro k ⟨hk,hinv⟩
    refine aMF ?_
    refine ⟨fun h=>?_,fun h=>?_⟩
    ·have hlt:k<comps.length:=by simpa using h
     have h4:comps.length=4:=rfl
     apply aC; simp only [go_sem,getD_map,hlt]
     refine ⟨by omega,fun h2=>?_,fun h2=>?_⟩
     ·refine aMF ?_
      refine R.y rfl (aj (by (simp only [go_sem]))) (.jJ 58 comps[k].2 _ _ [.pd (I (bI (a.n - b.n) add))] [B (xA comps[k].1 (bI (a.n - b.n) add))] false rfl rfl (.cons (.pd _) .nil) (Dy comps[k] (ab5 hlt) _) (by simp)) ?_
      refine aMF ?_
      refine R.rC ?_
      have h2:comps[k].1=op:=by simpa using h2
      rw [ht,← h2]; rfl
     ·apply aC; simp only [go_sem,wrapN (k:=k) (by omega)]
      refine R.fE (k+1) ⟨by omega,fun j hj hjk=>?_⟩
      rcases aky j k with c1 | c1
      ·exact hinv j hj c1
      ·obtain rfl:j=k:=by omega
       simpa using h2
    ·have hge:¬ k<comps.length:=by simpa using h
     refine aMF ?_
     refine R.rC ?_
     rw [ht,DC (fun j hj=>hinv j hj (by omega))]; rfl
   rename_i k2
   have k2:a.kind≠2:=by simpa using k2
   split
   ·rename_i k3
    have ht:iy a op b add=xA op (bI (a.n - b.n) add):=by
     have:a.kind=3:=by simpa using k3
     simp only [iy,ha,hb,hk]; simp [this]
    refine R.fU (fun (k:Nat) s=>St.lp [0,1,2,3,4,6,9,12,13,14,15,16,17,18,19,20,21,22,23,24,25,26,27,28,29,30,31,32,33,34,35,36,37,38,39,40,41,42,43,44,45,46,47,48] [(49,.pd (I k))] [4,6] [] [] [] s) (fun (k:Nat)=>k≤comps.length∧∀ j (h:j<comps.length),j<k→comps[j].1≠op) (fun (k:Nat)=>comps.length - k) (0) (⟨by omega,by intros; omega⟩) ?_
    rintro k ⟨hk,hinv⟩
    refine aMF ?_
    refine ⟨fun h=>?_,fun h=>?_⟩
    ·have hlt:k<comps.length:=by simpa using h
     have h4:comps.length=4:=rfl
     apply aC; simp only [go_sem,getD_map,hlt]
     refine ⟨by omega,fun h2=>?_,fun h2=>?_⟩
     ·refine aMF ?_
      refine R.y rfl (aj (by (simp only [go_sem]))) (.jJ 58 comps[k].2 _ _ [.pd (I (bI (a.n - b.n) add))] [B (xA comps[k].1 (bI (a.n - b.n) add))] false rfl rfl (.cons (.pd _) .nil) (Dy comps[k] (ab5 hlt) _) (by simp)) ?_
      refine aMF ?_
      refine R.rC ?_
      have h2:comps[k].1=op:=by simpa using h2
      rw [ht,← h2]; rfl
     ·apply aC; simp only [go_sem,wrapN (k:=k) (by omega)]
      refine R.fE (k+1) ⟨by omega,fun j hj hjk=>?_⟩
      rcases aky j k with c1 | c1
      ·exact hinv j hj c1
      ·obtain rfl:j=k:=by omega
       simpa using h2
    ·have hge:¬ k<comps.length:=by simpa using h
     refine aMF ?_
     refine R.rC ?_
     rw [ht,DC (fun j hj=>hinv j hj (by omega))]; rfl
   rename_i k3
   have k3:a.kind≠3:=by simpa using k3
   split
   ·rename_i k1
    have k1:a.kind=1:=by simpa using k1
    split
    ·rename_i hadd
     simp only [iy,ha,hb,hk]; simp [k1,show add≠0 by simpa using hadd]
    ·rename_i hadd
     have ht:iy a op b add=xA op (nI a b):=by
      simp only [iy,ha,hb,hk]; simp [k1,show add=0 by simpa using hadd]
     refine R.fU (fun (k:Nat) s=>St.lp [0,1,2,3,4,6,9,12,13,14,15,16,17,18,19,20,21,22,23,24,25,26,27,28,29,30,31,32,33,34,35,36,37,38,39,40,41,42,43,44,45,46,47,48] [(49,.pd (I k))] [4,6] [] [] [] s) (fun (k:Nat)=>k≤comps.length∧∀ j (h:j<comps.length),j<k→comps[j].1≠op) (fun (k:Nat)=>comps.length - k) (0) (⟨by omega,by intros; omega⟩) ?_
     rintro k ⟨hk,hinv⟩
     refine aMF ?_
     refine ⟨fun h=>?_,fun h=>?_⟩
     ·have hlt:k<comps.length:=by simpa using h
      have h4:comps.length=4:=rfl
      apply aC; simp only [go_sem,getD_map,hlt]
      refine ⟨by omega,fun h2=>?_,fun h2=>?_⟩
      ·refine aMF ?_
       refine R.y rfl (aj (by (simp only [go_sem]))) (.jJ 58 comps[k].2 _ _ [.pd (I (nI a b))] [B (xA comps[k].1 (nI a b))] false rfl rfl (.cons (.pd _) .nil) (Dy comps[k] (ab5 hlt) _) (by simp)) ?_
       refine aMF ?_
       refine R.rC ?_
       have h2:comps[k].1=op:=by simpa using h2
       rw [ht,← h2]; rfl
      ·apply aC; simp only [go_sem,wrapN (k:=k) (by omega)]
       refine R.fE (k+1) ⟨by omega,fun j hj hjk=>?_⟩
       rcases aky j k with c1 | c1
       ·exact hinv j hj c1
       ·obtain rfl:j=k:=by omega
        simpa using h2
     ·have hge:¬ k<comps.length:=by simpa using h
      refine aMF ?_
      refine R.rC ?_
      rw [ht,DC (fun j hj=>hinv j hj (by omega))]; rfl
   rename_i k1
   have k1:a.kind≠1:=by simpa using k1
   split
   ·rename_i k4
    have k4:a.kind=4:=by simpa using k4
    split
    ·rename_i hadd
     simp only [iy,ha,hb,hk]; simp [k4,show add≠0 by simpa using hadd]
    ·rename_i hadd
     have ht:iy a op b add=xA op (nI a b):=by
      simp only [iy,ha,hb,hk]; simp [k4,show add=0 by simpa using hadd]
     refine R.fU (fun (k:Nat) s=>St.lp [0,1,2,3,4,6,9,12,13,14,15,16,17,18,19,20,21,22,23,24,25,26,27,28,29,30,31,32,33,34,35,36,37,38,39,40,41,42,43,44,45,46,47,48] [(49,.pd (I k))] [4,6] [] [] [] s) (fun (k:Nat)=>k≤comps.length∧∀ j (h:j<comps.length),j<k→comps[j].1≠op) (fun (k:Nat)=>comps.length - k) (0) (⟨by omega,by intros; omega⟩) ?_
     rintro k ⟨hk,hinv⟩
     refine aMF ?_
     refine ⟨fun h=>?_,fun h=>?_⟩
     ·have hlt:k<comps.length:=by simpa using h
      have h4:comps.length=4:=rfl
      apply aC; simp only [go_sem,getD_map,hlt]
      refine ⟨by omega,fun h2=>?_,fun h2=>?_⟩
      ·refine aMF ?_
       refine R.y rfl (aj (by (simp only [go_sem]))) (.jJ 58 comps[k].2 _ _ [.pd (I (nI a b))] [B (xA comps[k].1 (nI a b))] false rfl rfl (.cons (.pd _) .nil) (Dy comps[k] (ab5 hlt) _) (by simp)) ?_
       refine aMF ?_
       refine R.rC ?_
       have h2:comps[k].1=op:=by simpa using h2
       rw [ht,← h2]; rfl
      ·apply aC; simp only [go_sem,wrapN (k:=k) (by omega)]
       refine R.fE (k+1) ⟨by omega,fun j hj hjk=>?_⟩
       rcases aky j k with c1 | c1
       ·exact hinv j hj c1
       ·obtain rfl:j=k:=by omega
        simpa using h2
     ·have hge:¬ k<comps.length:=by simpa using h
      refine aMF ?_
      refine R.rC ?_
      rw [ht,DC (fun j hj=>hinv j hj (by omega))]; rfl
   ·rename_i k4
    have k4:a.kind≠4:=by simpa using k4
    simp only [iy,ha,hb,hk]; simp [k1,k2,k3,k4]
end Go.Proofs.Z
