/- A part of the proof. -/
import Derived.Test.YtjbhhddfaohdnaaGreatDoorPV1
set_option linter.all false
set_option linter.deprecated false
open Go.Proofs.Tryz renaming prog→abZ,results196→atV
open Go.Value.bool renaming injEq→aeH
open Go.Value.int renaming injEq→aeL
namespace Go.Proofs.Z
open Go Go.au Go.Proofs
set_option maxRecDepth 10000
set_option maxHeartbeats 4000000
theorem ajf:aH abZ 83:=fun _ _=>by kernel_rfl
theorem afB:aH abZ 291:=fun _ _=>by kernel_rfl
theorem afC:aH abZ 292:=fun _ _=>by kernel_rfl
theorem afD:aH abZ 293:=fun _ _=>by kernel_rfl
theorem afE:aH abZ 294:=fun _ _=>by kernel_rfl
theorem afF:aH abZ 253:=fun _ _=>by kernel_rfl
theorem afG:aH abZ 196:=fun _ _=>by kernel_rfl
def AY (kind:Int) (v:V):Bool:=dA v&&(v.kind == 0 || v.kind == kind)
theorem XM (kind:Int) (v:V):aF abZ 83 [.pd (I kind),.pd (val v)] [B (AY kind v)]:=by
 refine aF.mk Tryz.func83 rfl ajf (by simp [Tryz.ntmps83]) fun w G=>?_
 (refine cO [(6,.of (nR v))] 120 _ _ ?_; simp only [go_sem,Go.au.dU,iQ,↓reduceIte,ab1,SV.pd.injEq,PD.raw.injEq,aeH,aeL,Tryz.results83])
 unfold AY
 cases dA v <;> cases (v.kind == 0) <;> simp
theorem adB (c:Int):aF abZ 291 [.pd (I c)] [B (c == 0)]:=by
 refine aF.mk Tryz.func291 rfl afB (by simp [Tryz.ntmps291]) fun w G=>?_
 (refine cO [] 120 _ _ ?_; simp only [go_sem,Go.au.dU,iQ,↓reduceIte,ab1,SV.pd.injEq,PD.raw.injEq,aeH,aeL,Tryz.results291])
theorem adC (c:Int):aF abZ 292 [.pd (I c)] [B (c != 0)]:=by
 refine aF.mk Tryz.func292 rfl afC (by simp [Tryz.ntmps292]) fun w G=>?_
 (refine cO [] 120 _ _ ?_; simp only [go_sem,Go.au.dU,iQ,↓reduceIte,ab1,SV.pd.injEq,PD.raw.injEq,aeH,aeL,Tryz.results292])
theorem adD (c:Int):aF abZ 293 [.pd (I c)] [B (decide (c<0))]:=by
 refine aF.mk Tryz.func293 rfl afD (by simp [Tryz.ntmps293]) fun w G=>?_
 (refine cO [] 120 _ _ ?_; simp only [go_sem,Go.au.dU,iQ,↓reduceIte,ab1,SV.pd.injEq,PD.raw.injEq,aeH,aeL,Tryz.results293])
theorem adE (c:Int):aF abZ 294 [.pd (I c)] [B (decide (c≤0))]:=by
 refine aF.mk Tryz.func294 rfl afE (by simp [Tryz.ntmps294]) fun w G=>?_
 (refine cO [] 120 _ _ ?_; simp only [go_sem,Go.au.dU,iQ,↓reduceIte,ab1,SV.pd.injEq,PD.raw.injEq,aeH,aeL,Tryz.results294])
def comps:List (Int × Nat):=[(1,291),(2,292),(3,293),(4,294)]
abbrev alD (p:Int × Nat):PD:=.aj [I p.1,.raw (.func (.func p.2) #[] #[])]
def wE (op c:Int):Bool:=if op=1 then c == 0 else if op=2 then c != 0 else if op=3 then decide (c<0) else if op=4 then decide (c≤0) else false
theorem Dx (p:Int × Nat) (hp:p∈comps) (c:Int):aF abZ p.2 [.pd (I c)] [B (wE p.1 c)]:=by
 simp only [comps,ae1,asb,apj] at hp
 rcases hp with rfl | rfl | rfl | rfl
 ·exact adB c
 ·exact adC c
 ·exact adD c
 ·exact adE c
theorem Lj:aF abZ 253 [] [.list 2 (comps.map alD)]:=by
 refine aF.mk Tryz.func253 rfl afF (by simp [Tryz.ntmps253]) fun w G=>?_
 (refine cO [] 120 _ _ ?_; simp only [go_sem,Go.au.dU,iQ,↓reduceIte,ab1,SV.pd.injEq,PD.raw.injEq,aeH,aeL,Tryz.results253,comps])
def iO (a:V) (op:Int) (b:V) (add:Int):Bool:=
 if !dA a || !dA b || a.kind != b.kind then false
 else if a.kind=2∨a.kind=3 then wE op (dh (a.n - b.n) add)
 else if a.kind=1∨a.kind=4 then (if add≠0 then false else wE op (oP a b)) else false
theorem Qd {v:V} (h:dA v=true):-1000000000≤v.n∧v.n≤1000000000:=by
 unfold dA zL at h
 split at h
 ·cases h
 ·split at h
  ·simp at h; omega
  ·split at h
   ·simp at h; omega
   ·split at h
    ·simp at h; omega
    ·split at h
     ·simp at h; omega
     ·split at h
      ·simp at h; omega
      ·cases h
theorem Dy {op:Int} (h:∀ j (h:j<comps.length),comps[j].1≠op) (c:Int):wE op c=false:=by
 have h1:=h 0 (by decide); have h2:=h 1 (by decide); have h3:=h 2 (by decide); have h4:=h 3 (by decide)
 simp only [comps,List.getElem_cons_zero,List.getElem_cons_succ] at h1 h2 h3 h4
 simp [wE,an2 h1,an2 h2,an2 h3,an2 h4]
theorem Ll (a:V) (op:Int) (b:V) (add:Int):aF abZ 196 [.pd (val a),.pd (I op),.pd (val b),.pd (I add)] [B (iO a op b add)]:=by
 refine aF.mk Tryz.func196 rfl afG (by simp [Tryz.ntmps196]) fun w G=>?_
 cases ha:dA a with
 | false=>
  (refine cO [(13,.of (nR a))] 120 _ _ ?_; simp only [go_sem,Go.au.dU,iQ,↓reduceIte,ab1,SV.pd.injEq,PD.raw.injEq,aeH,aeL,atV,ha])
  simp [iO,ha]
 | true=>
  cases hb:dA b with
  | false=>
   (refine cO [(13,.of (nR a)),(17,.of (nR b))] 120 _ _ ?_; simp only [go_sem,Go.au.dU,iQ,↓reduceIte,ab1,SV.pd.injEq,PD.raw.injEq,aeH,aeL,atV,ha,hb])
   simp [iO,hb]
  | true=>
   have h1:=Qd ha
   have h2:=Qd hb
   have hwr:IntKind.i64.wrap (a.n - b.n)=a.n - b.n:=wrap64 (by omega) (by omega)
   (refine cO [(13,.of (nR a)),(17,.of (nR b)),(38,.of (zN (a.n - b.n) add)),(46,.of (Hl a b)),(47,.of (Lj))] 120 _ _ ?_; simp only [go_sem,Go.au.dU,iQ,↓reduceIte,ab1,SV.pd.injEq,PD.raw.injEq,aeH,aeL,atV,ha,hb,hwr])
   split
   ·rename_i hk; simp [iO,hk]
   rename_i hk
   have hk:(a.kind != b.kind)=false:=by simpa using hk
   split
   ·rename_i k2
    have ht:iO a op b add=wE op (dh (a.n - b.n) add):=by
     have:a.kind=2:=by simpa using k2
     simp only [iO,ha,hb,hk]; simp [this]
    refine R.fU (fun (k:Nat) s=>St.lp [0,1,2,3,4,6,9,12,13,14,15,16,17,18,19,20,21,22,23,24,25,26,27,28,29,30,31,32,33,34,35,36,37,38,39,40,41,42,43,44,45,46,47,48] [(49,.pd (I k))] [4,6] [] [] [] s) (fun (k:Nat)=>k≤comps.length∧∀ j (h:j<comps.length),j<k→comps[j].1≠op) (fun (k:Nat)=>comps.length - k) (0) (⟨by omega,by intros; omega⟩) ?_
    rintro k ⟨hk,hinv⟩
    apply aA; simp only [go_sem,ab1,SV.pd.injEq]
    refine ⟨fun h=>?_,fun h=>?_⟩
    ·have hlt:k<comps.length:=by simpa using h
     have h4:comps.length=4:=rfl
     apply aA; simp only [go_sem,ab1,SV.pd.injEq,getD_map,hlt]
     refine ⟨by omega,fun h2=>?_,fun h2=>?_⟩
     ·apply aA; simp only [go_sem,ab1,SV.pd.injEq]
      refine R.y rfl (ah (by (simp only [go_sem]))) (.fP 58 comps[k].2 _ _ [.pd (I (dh (a.n - b.n) add))] [B (wE comps[k].1 (dh (a.n - b.n) add))] false rfl rfl (.cons (.pd _) .nil) (Dx comps[k] (acn hlt) _) (by simp)) ?_
      apply aA; simp only [go_sem,ab1,SV.pd.injEq]
      refine R.rC ?_
      have h2:comps[k].1=op:=by simpa using h2
      rw [ht,← h2]; rfl
     ·apply aA; simp only [go_sem,ab1,SV.pd.injEq,wrapN (k:=k) (by omega)]
      refine R.fE (k+1) ⟨by omega,fun j hj hjk=>?_⟩
      rcases amR j k with c1 | c1
      ·exact hinv j hj c1
      ·obtain rfl:j=k:=by omega
       simpa using h2
    ·have hge:¬ k<comps.length:=by simpa using h
     apply aA; simp only [go_sem,ab1,SV.pd.injEq]
     refine R.rC ?_
     rw [ht,Dy (fun j hj=>hinv j hj (by omega))]; rfl
   rename_i k2
   have k2:a.kind≠2:=by simpa using k2
   split
   ·rename_i k3
    have ht:iO a op b add=wE op (dh (a.n - b.n) add):=by
     have:a.kind=3:=by simpa using k3
     simp only [iO,ha,hb,hk]; simp [this]
    refine R.fU (fun (k:Nat) s=>St.lp [0,1,2,3,4,6,9,12,13,14,15,16,17,18,19,20,21,22,23,24,25,26,27,28,29,30,31,32,33,34,35,36,37,38,39,40,41,42,43,44,45,46,47,48] [(49,.pd (I k))] [4,6] [] [] [] s) (fun (k:Nat)=>k≤comps.length∧∀ j (h:j<comps.length),j<k→comps[j].1≠op) (fun (k:Nat)=>comps.length - k) (0) (⟨by omega,by intros; omega⟩) ?_
    rintro k ⟨hk,hinv⟩
    apply aA; simp only [go_sem,ab1,SV.pd.injEq]
    refine ⟨fun h=>?_,fun h=>?_⟩
    ·have hlt:k<comps.length:=by simpa using h
     have h4:comps.length=4:=rfl
     apply aA; simp only [go_sem,ab1,SV.pd.injEq,getD_map,hlt]
     refine ⟨by omega,fun h2=>?_,fun h2=>?_⟩
     ·apply aA; simp only [go_sem,ab1,SV.pd.injEq]
      refine R.y rfl (ah (by (simp only [go_sem]))) (.fP 58 comps[k].2 _ _ [.pd (I (dh (a.n - b.n) add))] [B (wE comps[k].1 (dh (a.n - b.n) add))] false rfl rfl (.cons (.pd _) .nil) (Dx comps[k] (acn hlt) _) (by simp)) ?_
      apply aA; simp only [go_sem,ab1,SV.pd.injEq]
      refine R.rC ?_
      have h2:comps[k].1=op:=by simpa using h2
      rw [ht,← h2]; rfl
     ·apply aA; simp only [go_sem,ab1,SV.pd.injEq,wrapN (k:=k) (by omega)]
      refine R.fE (k+1) ⟨by omega,fun j hj hjk=>?_⟩
      rcases amR j k with c1 | c1
      ·exact hinv j hj c1
      ·obtain rfl:j=k:=by omega
       simpa using h2
    ·have hge:¬ k<comps.length:=by simpa using h
     apply aA; simp only [go_sem,ab1,SV.pd.injEq]
     refine R.rC ?_
     rw [ht,Dy (fun j hj=>hinv j hj (by omega))]; rfl
   rename_i k3
   have k3:a.kind≠3:=by simpa using k3
   split
   ·rename_i k1
    have k1:a.kind=1:=by simpa using k1
    split
    ·rename_i hadd
     simp only [iO,ha,hb,hk]; simp [k1,show add≠0 by simpa using hadd]
    ·rename_i hadd
     have ht:iO a op b add=wE op (oP a b):=by
      simp only [iO,ha,hb,hk]; simp [k1,show add=0 by simpa using hadd]
     refine R.fU (fun (k:Nat) s=>St.lp [0,1,2,3,4,6,9,12,13,14,15,16,17,18,19,20,21,22,23,24,25,26,27,28,29,30,31,32,33,34,35,36,37,38,39,40,41,42,43,44,45,46,47,48] [(49,.pd (I k))] [4,6] [] [] [] s) (fun (k:Nat)=>k≤comps.length∧∀ j (h:j<comps.length),j<k→comps[j].1≠op) (fun (k:Nat)=>comps.length - k) (0) (⟨by omega,by intros; omega⟩) ?_
     rintro k ⟨hk,hinv⟩
     apply aA; simp only [go_sem,ab1,SV.pd.injEq]
     refine ⟨fun h=>?_,fun h=>?_⟩
     ·have hlt:k<comps.length:=by simpa using h
      have h4:comps.length=4:=rfl
      apply aA; simp only [go_sem,ab1,SV.pd.injEq,getD_map,hlt]
      refine ⟨by omega,fun h2=>?_,fun h2=>?_⟩
      ·apply aA; simp only [go_sem,ab1,SV.pd.injEq]
       refine R.y rfl (ah (by (simp only [go_sem]))) (.fP 58 comps[k].2 _ _ [.pd (I (oP a b))] [B (wE comps[k].1 (oP a b))] false rfl rfl (.cons (.pd _) .nil) (Dx comps[k] (acn hlt) _) (by simp)) ?_
       apply aA; simp only [go_sem,ab1,SV.pd.injEq]
       refine R.rC ?_
       have h2:comps[k].1=op:=by simpa using h2
       rw [ht,← h2]; rfl
      ·apply aA; simp only [go_sem,ab1,SV.pd.injEq,wrapN (k:=k) (by omega)]
       refine R.fE (k+1) ⟨by omega,fun j hj hjk=>?_⟩
       rcases amR j k with c1 | c1
       ·exact hinv j hj c1
       ·obtain rfl:j=k:=by omega
        simpa using h2
     ·have hge:¬ k<comps.length:=by simpa using h
      apply aA; simp only [go_sem,ab1,SV.pd.injEq]
      refine R.rC ?_
      rw [ht,Dy (fun j hj=>hinv j hj (by omega))]; rfl
   rename_i k1
   have k1:a.kind≠1:=by simpa using k1
   split
   ·rename_i k4
    have k4:a.kind=4:=by simpa using k4
    split
    ·rename_i hadd
     simp only [iO,ha,hb,hk]; simp [k4,show add≠0 by simpa using hadd]
    ·rename_i hadd
     have ht:iO a op b add=wE op (oP a b):=by
      simp only [iO,ha,hb,hk]; simp [k4,show add=0 by simpa using hadd]
     refine R.fU (fun (k:Nat) s=>St.lp [0,1,2,3,4,6,9,12,13,14,15,16,17,18,19,20,21,22,23,24,25,26,27,28,29,30,31,32,33,34,35,36,37,38,39,40,41,42,43,44,45,46,47,48] [(49,.pd (I k))] [4,6] [] [] [] s) (fun (k:Nat)=>k≤comps.length∧∀ j (h:j<comps.length),j<k→comps[j].1≠op) (fun (k:Nat)=>comps.length - k) (0) (⟨by omega,by intros; omega⟩) ?_
     rintro k ⟨hk,hinv⟩
     apply aA; simp only [go_sem,ab1,SV.pd.injEq]
     refine ⟨fun h=>?_,fun h=>?_⟩
     ·have hlt:k<comps.length:=by simpa using h
      have h4:comps.length=4:=rfl
      apply aA; simp only [go_sem,ab1,SV.pd.injEq,getD_map,hlt]
      refine ⟨by omega,fun h2=>?_,fun h2=>?_⟩
      ·apply aA; simp only [go_sem,ab1,SV.pd.injEq]
       refine R.y rfl (ah (by (simp only [go_sem]))) (.fP 58 comps[k].2 _ _ [.pd (I (oP a b))] [B (wE comps[k].1 (oP a b))] false rfl rfl (.cons (.pd _) .nil) (Dx comps[k] (acn hlt) _) (by simp)) ?_
       apply aA; simp only [go_sem,ab1,SV.pd.injEq]
       refine R.rC ?_
       have h2:comps[k].1=op:=by simpa using h2
       rw [ht,← h2]; rfl
      ·apply aA; simp only [go_sem,ab1,SV.pd.injEq,wrapN (k:=k) (by omega)]
       refine R.fE (k+1) ⟨by omega,fun j hj hjk=>?_⟩
       rcases amR j k with c1 | c1
       ·exact hinv j hj c1
       ·obtain rfl:j=k:=by omega
        simpa using h2
     ·have hge:¬ k<comps.length:=by simpa using h
      apply aA; simp only [go_sem,ab1,SV.pd.injEq]
      refine R.rC ?_
      rw [ht,Dy (fun j hj=>hinv j hj (by omega))]; rfl
   ·rename_i k4
    have k4:a.kind≠4:=by simpa using k4
    simp only [iO,ha,hb,hk]; simp [k1,k2,k3,k4]
end Go.Proofs.Z
