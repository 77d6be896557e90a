/- A part of the proof: V2. -/
import Derived.Test.YtjbhhddfaohdnaaGreatDoorPV1
set_option linter.all false
set_option linter.deprecated false
namespace Go.Proofs.YtjbhhddfaohdnaaGreatDoor
open Go Go.Abs Go.Proofs
set_option maxRecDepth 10000
set_option maxHeartbeats 4000000
theorem ent83:Ent Tryz.prog 83:=fun args w=>(by kernel_rfl:(callFunc 83 args).run Tryz.prog w = .ok (.enter 83 args) w)
theorem ent291:Ent Tryz.prog 291:=fun args w=>(by kernel_rfl:(callFunc 291 args).run Tryz.prog w = .ok (.enter 291 args) w)
theorem ent292:Ent Tryz.prog 292:=fun args w=>(by kernel_rfl:(callFunc 292 args).run Tryz.prog w = .ok (.enter 292 args) w)
theorem ent293:Ent Tryz.prog 293:=fun args w=>(by kernel_rfl:(callFunc 293 args).run Tryz.prog w = .ok (.enter 293 args) w)
theorem ent294:Ent Tryz.prog 294:=fun args w=>(by kernel_rfl:(callFunc 294 args).run Tryz.prog w = .ok (.enter 294 args) w)
theorem ent253:Ent Tryz.prog 253:=fun args w=>(by kernel_rfl:(callFunc 253 args).run Tryz.prog w = .ok (.enter 253 args) w)
theorem ent196:Ent Tryz.prog 196:=fun args w=>(by kernel_rfl:(callFunc 196 args).run Tryz.prog w = .ok (.enter 196 args) w)
def fitV (kind:Int) (v:V):Bool:=validV v && (v.kind == 0 || v.kind == kind)
theorem fit_ok (kind:Int) (v:V):FnC Tryz.prog 83 [.pd (I kind),.pd (val v)] [B (fitV kind v)]:=by
 refine FnC.mk Tryz.func83 rfl ent83 (by simp [Tryz.ntmps83]) fun w G=>?_
 (refine evQC_ok [(6,.of (valid_ok v))] 120 _ _ ?_; simp only [go_sem,evQ,rtC,ev2,con_f,con_args,con_rs,plainA,↓reduceIte,List.cons.injEq,SV.pd.injEq,PD.raw.injEq,Value.bool.injEq,Value.int.injEq,Tryz.results83,ite_self])
 unfold fitV
 cases validV v <;> cases (v.kind == 0) <;> simp
theorem cmp1_ok (c:Int):FnC Tryz.prog 291 [.pd (I c)] [B (c == 0)]:=by
 refine FnC.mk Tryz.func291 rfl ent291 (by simp [Tryz.ntmps291]) fun w G=>?_
 (refine evQC_ok [] 120 _ _ ?_; simp only [go_sem,evQ,rtC,ev2,con_f,con_args,con_rs,plainA,↓reduceIte,List.cons.injEq,SV.pd.injEq,PD.raw.injEq,Value.bool.injEq,Value.int.injEq,Tryz.results291,ite_self])
theorem cmp2_ok (c:Int):FnC Tryz.prog 292 [.pd (I c)] [B (c != 0)]:=by
 refine FnC.mk Tryz.func292 rfl ent292 (by simp [Tryz.ntmps292]) fun w G=>?_
 (refine evQC_ok [] 120 _ _ ?_; simp only [go_sem,evQ,rtC,ev2,con_f,con_args,con_rs,plainA,↓reduceIte,List.cons.injEq,SV.pd.injEq,PD.raw.injEq,Value.bool.injEq,Value.int.injEq,Tryz.results292,ite_self])
theorem cmp3_ok (c:Int):FnC Tryz.prog 293 [.pd (I c)] [B (decide (c < 0))]:=by
 refine FnC.mk Tryz.func293 rfl ent293 (by simp [Tryz.ntmps293]) fun w G=>?_
 (refine evQC_ok [] 120 _ _ ?_; simp only [go_sem,evQ,rtC,ev2,con_f,con_args,con_rs,plainA,↓reduceIte,List.cons.injEq,SV.pd.injEq,PD.raw.injEq,Value.bool.injEq,Value.int.injEq,Tryz.results293,ite_self])
theorem cmp4_ok (c:Int):FnC Tryz.prog 294 [.pd (I c)] [B (decide (c ≤ 0))]:=by
 refine FnC.mk Tryz.func294 rfl ent294 (by simp [Tryz.ntmps294]) fun w G=>?_
 (refine evQC_ok [] 120 _ _ ?_; simp only [go_sem,evQ,rtC,ev2,con_f,con_args,con_rs,plainA,↓reduceIte,List.cons.injEq,SV.pd.injEq,PD.raw.injEq,Value.bool.injEq,Value.int.injEq,Tryz.results294,ite_self])
def comps:List (Int × Nat):=[(1,291),(2,292),(3,293),(4,294)]
abbrev cmpn (p:Int × Nat):PD:=.tup [I p.1,.raw (.func (.func p.2) #[] #[])]
def opB (op c:Int):Bool:=if op = 1 then c == 0 else if op = 2 then c != 0 else if op = 3 then decide (c < 0) else if op = 4 then decide (c ≤ 0) else false
theorem comps_ok (p:Int × Nat) (hp:p ∈ comps) (c:Int):FnC Tryz.prog p.2 [.pd (I c)] [B (opB p.1 c)]:=by
 simp only [comps,List.mem_cons,List.not_mem_nil,or_false] at hp
 rcases hp with rfl | rfl | rfl | rfl
 ·exact cmp1_ok c
 ·exact cmp2_ok c
 ·exact cmp3_ok c
 ·exact cmp4_ok c
theorem comparisons_ok:FnC Tryz.prog 253 [] [.list 2 (comps.map cmpn)]:=by
 refine FnC.mk Tryz.func253 rfl ent253 (by simp [Tryz.ntmps253]) fun w G=>?_
 (refine evQC_ok [] 120 _ _ ?_; simp only [go_sem,evQ,rtC,ev2,con_f,con_args,con_rs,plainA,↓reduceIte,List.cons.injEq,SV.pd.injEq,PD.raw.injEq,Value.bool.injEq,Value.int.injEq,Tryz.results253,comps])
def testV (a:V) (op:Int) (b:V) (add:Int):Bool:=
 if !validV a || !validV b || a.kind != b.kind then false
 else if a.kind = 2 ∨ a.kind = 3 then opB op (cmpI (a.n - b.n) add)
 else if a.kind = 1 ∨ a.kind = 4 then (if add ≠ 0 then false else opB op (cmpV a b)) else false
theorem validV_n {v:V} (h:validV v = true):-1000000000 ≤ v.n∧v.n ≤ 1000000000:=by
 unfold validV inR at h
 split at h
 ·cases h
 ·split at h
  ·simp at h; omega
  ·split at h
   ·simp at h; omega
   ·split at h
    ·simp at h; omega
    ·split at h
     ·simp at h; omega
     ·split at h
      ·simp at h; omega
      ·cases h
theorem opB_none {op:Int} (h:∀ j (h:j < comps.length),comps[j].1 ≠ op) (c:Int):opB op c = false:=by
 have h1:=h 0 (by decide); have h2:=h 1 (by decide); have h3:=h 2 (by decide); have h4:=h 3 (by decide)
 simp only [comps,List.getElem_cons_zero,List.getElem_cons_succ] at h1 h2 h3 h4
 simp [opB,Ne.symm h1,Ne.symm h2,Ne.symm h3,Ne.symm h4]
theorem test_ok (a:V) (op:Int) (b:V) (add:Int):FnC Tryz.prog 196 [.pd (val a),.pd (I op),.pd (val b),.pd (I add)] [B (testV a op b add)]:=by
 refine FnC.mk Tryz.func196 rfl ent196 (by simp [Tryz.ntmps196]) fun w G=>?_
 cases ha:validV a with
 | false=>
  (refine evQC_ok [(13,.of (valid_ok a))] 120 _ _ ?_; simp only [go_sem,evQ,rtC,ev2,con_f,con_args,con_rs,plainA,↓reduceIte,List.cons.injEq,SV.pd.injEq,PD.raw.injEq,Value.bool.injEq,Value.int.injEq,Tryz.results196,ha])
  simp [testV,ha]
 | true=>
  cases hb:validV b with
  | false=>
   (refine evQC_ok [(13,.of (valid_ok a)),(17,.of (valid_ok b))] 120 _ _ ?_; simp only [go_sem,evQ,rtC,ev2,con_f,con_args,con_rs,plainA,↓reduceIte,List.cons.injEq,SV.pd.injEq,PD.raw.injEq,Value.bool.injEq,Value.int.injEq,Tryz.results196,ha,hb])
   simp [testV,hb]
  | true=>
   have h1:=validV_n ha
   have h2:=validV_n hb
   have hwr:IntKind.i64.wrap (a.n - b.n) = a.n - b.n:=wrap64 (by omega) (by omega)
   (refine evQC_ok [(13,.of (valid_ok a)),(17,.of (valid_ok b)),(38,.of (orderI_ok (a.n - b.n) add)),(46,.of (compareV_ok a b)),(47,.of (comparisons_ok))] 120 _ _ ?_; simp only [go_sem,evQ,rtC,ev2,con_f,con_args,con_rs,plainA,↓reduceIte,List.cons.injEq,SV.pd.injEq,PD.raw.injEq,Value.bool.injEq,Value.int.injEq,Tryz.results196,ha,hb,hwr])
   split
   ·rename_i hk; simp [testV,hk]
   rename_i hk
   have hk:(a.kind != b.kind) = false:=by simpa using hk
   split
   ·rename_i k2
    have ht:testV a op b add = opB op (cmpI (a.n - b.n) add):=by
     have:a.kind = 2:=by simpa using k2
     simp only [testV,ha,hb,hk]; simp [this]
    refine R.famU (fun (k:Nat) s=>St.lp [0,1,2,3,4,6,9,12,13,14,15,16,17,18,19,20,21,22,23,24,25,26,27,28,29,30,31,32,33,34,35,36,37,38,39,40,41,42,43,44,45,46,47,48] [(49,.pd (I k))] [4,6] [] [] [] s) (fun (k:Nat)=>k ≤ comps.length∧∀ j (h:j < comps.length),j < k→comps[j].1 ≠ op) (fun (k:Nat)=>comps.length - k) (0) (⟨by omega,by intros; omega⟩) (by (simp only [go_sem]); all_goals (and_intros <;> rfl)) ?_
    rintro k ⟨hk,hinv⟩
    (refine evC_ok (cs:=[]) 80 _ _ ?_; simp only [go_sem,evC,ev2,con_f,con_args,con_rs,plainA,List.cons.injEq,SV.pd.injEq,ite_self])
    refine ⟨fun h=>?_,fun h=>?_⟩
    ·have hlt:k < comps.length:=by simpa using h
     have h4:comps.length = 4:=rfl
     (refine evC_ok (cs:=[]) 80 _ _ ?_; simp only [go_sem,evC,ev2,con_f,con_args,con_rs,plainA,List.cons.injEq,SV.pd.injEq,getD_map,hlt])
     refine ⟨by omega,fun h2=>?_,fun h2=>?_⟩
     ·(refine evC_ok (cs:=[]) 80 _ _ ?_; simp only [go_sem,evC,ev2,con_f,con_args,con_rs,plainA,List.cons.injEq,SV.pd.injEq,ite_self])
      refine R.y rfl (dstP_ok (by (simp only [go_sem]))) (.callRaw 58 comps[k].2 _ _ [.pd (I (cmpI (a.n - b.n) add))] [B (opB comps[k].1 (cmpI (a.n - b.n) add))] false rfl rfl (.cons (.pd _) .nil) (comps_ok comps[k] (List.getElem_mem hlt) _) (by simp)) ?_
      (refine evC_ok (cs:=[]) 80 _ _ ?_; simp only [go_sem,evC,ev2,con_f,con_args,con_rs,plainA,List.cons.injEq,SV.pd.injEq,ite_self])
      refine R.retC (vc:=True) ?_ trivial
      have h2:comps[k].1 = op:=by simpa using h2
      rw [ht,← h2]; rfl
     ·(refine evC_ok (cs:=[]) 80 _ _ ?_; simp only [go_sem,evC,ev2,con_f,con_args,con_rs,plainA,List.cons.injEq,SV.pd.injEq,wrapN (k:=k) (by omega)])
      refine R.famEnd (k + 1) ⟨by omega,fun j hj hjk=>?_⟩ (by show _ < _; omega) (by (simp only [go_sem]); all_goals (and_intros <;> rfl))
      rcases Nat.lt_or_ge j k with c1 | c1
      ·exact hinv j hj c1
      ·obtain rfl:j = k:=by omega
       simpa using h2
    ·have hge:¬ k < comps.length:=by simpa using h
     (refine evC_ok (cs:=[]) 80 _ _ ?_; simp only [go_sem,evC,ev2,con_f,con_args,con_rs,plainA,List.cons.injEq,SV.pd.injEq,ite_self])
     refine R.retC (vc:=True) ?_ trivial
     rw [ht,opB_none (fun j hj=>hinv j hj (by omega))]; rfl
   rename_i k2
   have k2:a.kind ≠ 2:=by simpa using k2
   split
   ·rename_i k3
    have ht:testV a op b add = opB op (cmpI (a.n - b.n) add):=by
     have:a.kind = 3:=by simpa using k3
     simp only [testV,ha,hb,hk]; simp [this]
    refine R.famU (fun (k:Nat) s=>St.lp [0,1,2,3,4,6,9,12,13,14,15,16,17,18,19,20,21,22,23,24,25,26,27,28,29,30,31,32,33,34,35,36,37,38,39,40,41,42,43,44,45,46,47,48] [(49,.pd (I k))] [4,6] [] [] [] s) (fun (k:Nat)=>k ≤ comps.length∧∀ j (h:j < comps.length),j < k→comps[j].1 ≠ op) (fun (k:Nat)=>comps.length - k) (0) (⟨by omega,by intros; omega⟩) (by (simp only [go_sem]); all_goals (and_intros <;> rfl)) ?_
    rintro k ⟨hk,hinv⟩
    (refine evC_ok (cs:=[]) 80 _ _ ?_; simp only [go_sem,evC,ev2,con_f,con_args,con_rs,plainA,List.cons.injEq,SV.pd.injEq,ite_self])
    refine ⟨fun h=>?_,fun h=>?_⟩
    ·have hlt:k < comps.length:=by simpa using h
     have h4:comps.length = 4:=rfl
     (refine evC_ok (cs:=[]) 80 _ _ ?_; simp only [go_sem,evC,ev2,con_f,con_args,con_rs,plainA,List.cons.injEq,SV.pd.injEq,getD_map,hlt])
     refine ⟨by omega,fun h2=>?_,fun h2=>?_⟩
     ·(refine evC_ok (cs:=[]) 80 _ _ ?_; simp only [go_sem,evC,ev2,con_f,con_args,con_rs,plainA,List.cons.injEq,SV.pd.injEq,ite_self])
      refine R.y rfl (dstP_ok (by (simp only [go_sem]))) (.callRaw 58 comps[k].2 _ _ [.pd (I (cmpI (a.n - b.n) add))] [B (opB comps[k].1 (cmpI (a.n - b.n) add))] false rfl rfl (.cons (.pd _) .nil) (comps_ok comps[k] (List.getElem_mem hlt) _) (by simp)) ?_
      (refine evC_ok (cs:=[]) 80 _ _ ?_; simp only [go_sem,evC,ev2,con_f,con_args,con_rs,plainA,List.cons.injEq,SV.pd.injEq,ite_self])
      refine R.retC (vc:=True) ?_ trivial
      have h2:comps[k].1 = op:=by simpa using h2
      rw [ht,← h2]; rfl
     ·(refine evC_ok (cs:=[]) 80 _ _ ?_; simp only [go_sem,evC,ev2,con_f,con_args,con_rs,plainA,List.cons.injEq,SV.pd.injEq,wrapN (k:=k) (by omega)])
      refine R.famEnd (k + 1) ⟨by omega,fun j hj hjk=>?_⟩ (by show _ < _; omega) (by (simp only [go_sem]); all_goals (and_intros <;> rfl))
      rcases Nat.lt_or_ge j k with c1 | c1
      ·exact hinv j hj c1
      ·obtain rfl:j = k:=by omega
       simpa using h2
    ·have hge:¬ k < comps.length:=by simpa using h
     (refine evC_ok (cs:=[]) 80 _ _ ?_; simp only [go_sem,evC,ev2,con_f,con_args,con_rs,plainA,List.cons.injEq,SV.pd.injEq,ite_self])
     refine R.retC (vc:=True) ?_ trivial
     rw [ht,opB_none (fun j hj=>hinv j hj (by omega))]; rfl
   rename_i k3
   have k3:a.kind ≠ 3:=by simpa using k3
   split
   ·rename_i k1
    have k1:a.kind = 1:=by simpa using k1
    split
    ·rename_i hadd
     simp only [testV,ha,hb,hk]; simp [k1,show add ≠ 0 by simpa using hadd]
    ·rename_i hadd
     have ht:testV a op b add = opB op (cmpV a b):=by
      simp only [testV,ha,hb,hk]; simp [k1,show add = 0 by simpa using hadd]
     refine R.famU (fun (k:Nat) s=>St.lp [0,1,2,3,4,6,9,12,13,14,15,16,17,18,19,20,21,22,23,24,25,26,27,28,29,30,31,32,33,34,35,36,37,38,39,40,41,42,43,44,45,46,47,48] [(49,.pd (I k))] [4,6] [] [] [] s) (fun (k:Nat)=>k ≤ comps.length∧∀ j (h:j < comps.length),j < k→comps[j].1 ≠ op) (fun (k:Nat)=>comps.length - k) (0) (⟨by omega,by intros; omega⟩) (by (simp only [go_sem]); all_goals (and_intros <;> rfl)) ?_
     rintro k ⟨hk,hinv⟩
     (refine evC_ok (cs:=[]) 80 _ _ ?_; simp only [go_sem,evC,ev2,con_f,con_args,con_rs,plainA,List.cons.injEq,SV.pd.injEq,ite_self])
     refine ⟨fun h=>?_,fun h=>?_⟩
     ·have hlt:k < comps.length:=by simpa using h
      have h4:comps.length = 4:=rfl
      (refine evC_ok (cs:=[]) 80 _ _ ?_; simp only [go_sem,evC,ev2,con_f,con_args,con_rs,plainA,List.cons.injEq,SV.pd.injEq,getD_map,hlt])
      refine ⟨by omega,fun h2=>?_,fun h2=>?_⟩
      ·(refine evC_ok (cs:=[]) 80 _ _ ?_; simp only [go_sem,evC,ev2,con_f,con_args,con_rs,plainA,List.cons.injEq,SV.pd.injEq,ite_self])
       refine R.y rfl (dstP_ok (by (simp only [go_sem]))) (.callRaw 58 comps[k].2 _ _ [.pd (I (cmpV a b))] [B (opB comps[k].1 (cmpV a b))] false rfl rfl (.cons (.pd _) .nil) (comps_ok comps[k] (List.getElem_mem hlt) _) (by simp)) ?_
       (refine evC_ok (cs:=[]) 80 _ _ ?_; simp only [go_sem,evC,ev2,con_f,con_args,con_rs,plainA,List.cons.injEq,SV.pd.injEq,ite_self])
       refine R.retC (vc:=True) ?_ trivial
       have h2:comps[k].1 = op:=by simpa using h2
       rw [ht,← h2]; rfl
      ·(refine evC_ok (cs:=[]) 80 _ _ ?_; simp only [go_sem,evC,ev2,con_f,con_args,con_rs,plainA,List.cons.injEq,SV.pd.injEq,wrapN (k:=k) (by omega)])
       refine R.famEnd (k + 1) ⟨by omega,fun j hj hjk=>?_⟩ (by show _ < _; omega) (by (simp only [go_sem]); all_goals (and_intros <;> rfl))
       rcases Nat.lt_or_ge j k with c1 | c1
       ·exact hinv j hj c1
       ·obtain rfl:j = k:=by omega
        simpa using h2
     ·have hge:¬ k < comps.length:=by simpa using h
      (refine evC_ok (cs:=[]) 80 _ _ ?_; simp only [go_sem,evC,ev2,con_f,con_args,con_rs,plainA,List.cons.injEq,SV.pd.injEq,ite_self])
      refine R.retC (vc:=True) ?_ trivial
      rw [ht,opB_none (fun j hj=>hinv j hj (by omega))]; rfl
   rename_i k1
   have k1:a.kind ≠ 1:=by simpa using k1
   split
   ·rename_i k4
    have k4:a.kind = 4:=by simpa using k4
    split
    ·rename_i hadd
     simp only [testV,ha,hb,hk]; simp [k4,show add ≠ 0 by simpa using hadd]
    ·rename_i hadd
     have ht:testV a op b add = opB op (cmpV a b):=by
      simp only [testV,ha,hb,hk]; simp [k4,show add = 0 by simpa using hadd]
     refine R.famU (fun (k:Nat) s=>St.lp [0,1,2,3,4,6,9,12,13,14,15,16,17,18,19,20,21,22,23,24,25,26,27,28,29,30,31,32,33,34,35,36,37,38,39,40,41,42,43,44,45,46,47,48] [(49,.pd (I k))] [4,6] [] [] [] s) (fun (k:Nat)=>k ≤ comps.length∧∀ j (h:j < comps.length),j < k→comps[j].1 ≠ op) (fun (k:Nat)=>comps.length - k) (0) (⟨by omega,by intros; omega⟩) (by (simp only [go_sem]); all_goals (and_intros <;> rfl)) ?_
     rintro k ⟨hk,hinv⟩
     (refine evC_ok (cs:=[]) 80 _ _ ?_; simp only [go_sem,evC,ev2,con_f,con_args,con_rs,plainA,List.cons.injEq,SV.pd.injEq,ite_self])
     refine ⟨fun h=>?_,fun h=>?_⟩
     ·have hlt:k < comps.length:=by simpa using h
      have h4:comps.length = 4:=rfl
      (refine evC_ok (cs:=[]) 80 _ _ ?_; simp only [go_sem,evC,ev2,con_f,con_args,con_rs,plainA,List.cons.injEq,SV.pd.injEq,getD_map,hlt])
      refine ⟨by omega,fun h2=>?_,fun h2=>?_⟩
      ·(refine evC_ok (cs:=[]) 80 _ _ ?_; simp only [go_sem,evC,ev2,con_f,con_args,con_rs,plainA,List.cons.injEq,SV.pd.injEq,ite_self])
       refine R.y rfl (dstP_ok (by (simp only [go_sem]))) (.callRaw 58 comps[k].2 _ _ [.pd (I (cmpV a b))] [B (opB comps[k].1 (cmpV a b))] false rfl rfl (.cons (.pd _) .nil) (comps_ok comps[k] (List.getElem_mem hlt) _) (by simp)) ?_
       (refine evC_ok (cs:=[]) 80 _ _ ?_; simp only [go_sem,evC,ev2,con_f,con_args,con_rs,plainA,List.cons.injEq,SV.pd.injEq,ite_self])
       refine R.retC (vc:=True) ?_ trivial
       have h2:comps[k].1 = op:=by simpa using h2
       rw [ht,← h2]; rfl
      ·(refine evC_ok (cs:=[]) 80 _ _ ?_; simp only [go_sem,evC,ev2,con_f,con_args,con_rs,plainA,List.cons.injEq,SV.pd.injEq,wrapN (k:=k) (by omega)])
       refine R.famEnd (k + 1) ⟨by omega,fun j hj hjk=>?_⟩ (by show _ < _; omega) (by (simp only [go_sem]); all_goals (and_intros <;> rfl))
       rcases Nat.lt_or_ge j k with c1 | c1
       ·exact hinv j hj c1
       ·obtain rfl:j = k:=by omega
        simpa using h2
     ·have hge:¬ k < comps.length:=by simpa using h
      (refine evC_ok (cs:=[]) 80 _ _ ?_; simp only [go_sem,evC,ev2,con_f,con_args,con_rs,plainA,List.cons.injEq,SV.pd.injEq,ite_self])
      refine R.retC (vc:=True) ?_ trivial
      rw [ht,opB_none (fun j hj=>hinv j hj (by omega))]; rfl
   ·rename_i k4
    have k4:a.kind ≠ 4:=by simpa using k4
    simp only [testV,ha,hb,hk]; simp [k1,k2,k3,k4]
end Go.Proofs.YtjbhhddfaohdnaaGreatDoor
