/- A part of the proof: S7, W1, Drt. -/
import Derived.Test.YtjbhhddfaohdnaaGreatDoorPS6
import Derived.Test.YtjbhhddfaohdnaaGreatDoorPOwn
set_option linter.all false
set_option linter.deprecated false
section
namespace Go.Proofs.YtjbhhddfaohdnaaGreatDoor
open Go Go.Abs Go.Proofs
set_option maxRecDepth 10000
set_option maxHeartbeats 4000000
theorem w_plan (p:Plan):(plan p).width = 8:=by rw [plan_eq]; rfl
theorem t_plan (p:Plan):(plan p).isTup = true:=by rw [plan_eq]; rfl
theorem ent147:Ent Tryz.prog 147:=fun args w=>(by kernel_rfl:(callFunc 147 args).run Tryz.prog w = .ok (.enter 147 args) w)
theorem ent84:Ent Tryz.prog 84:=fun args w=>(by kernel_rfl:(callFunc 84 args).run Tryz.prog w = .ok (.enter 84 args) w)
theorem indexFunc_plans_ok (l:List Plan) (p:Plan→Bool):FnC Tryz.prog 147 [.pd (.list 8 (l.map plan)),.fn (decides plan p l)] [I (idxP p l)]:=by
 refine FnC.mk Tryz.func147 rfl ent147 (by simp [Tryz.ntmps147]) fun w G=>?_
 refine R.bound 0 (sz:=8) (ds:=l.map plan) rfl fun hl=>?_
 have hl:l.length ≤ 9223372036854775807:=by simpa [maxLen] using hl
 (refine ev_ok 40 _ _ ?_; simp only [go_sem])
 refine R.fam (fun k:Nat=>⟨19,[(0,.pd (.list 8 (l.map plan))),(1,.fn (decides plan p l)),(7,.pd (I l.length)),(8,.pd (I k))],[],[],[],[]⟩) (fun k=>k ≤ l.length∧(l.take k).any p = false) (fun k=>l.length - k) 0 ⟨by omega,by simp⟩ (by simp only [go_sem,I]; rfl) ?_
 rintro k ⟨hk,hinv⟩
 (refine ev_ok 60 _ _ ?_; simp only [go_sem,I])
 refine ⟨fun h=>?_,fun h=>?_⟩
 ·have hlt:k < l.length:=by simpa using h
  (refine ev_ok 60 _ _ ?_; simp only [go_sem,I,getD_map,hlt,w_plan,t_plan])
  refine ⟨by omega,?_⟩
  refine R.y rfl (dstP_ok (by simp only [go_sem])) (.callFn 11 _ _ _ _ (B (p l[k])) rfl rfl rfl ⟨l[k],List.getElem_mem hlt,rfl,rfl⟩) ?_
  (refine ev_ok 60 _ _ ?_; simp only [go_sem,B])
  refine ⟨fun h2=>?_,fun h2=>?_⟩
  ·(refine ev_ok 60 _ _ ?_; simp only [go_sem])
   refine R.retC (vc:=True) ?_ trivial
   rw [idxP_some hlt hinv h2]; rfl
  ·(refine ev_ok 60 _ _ ?_; simp only [go_sem,wrapN (k:=k) (by omega)])
   refine R.famEnd (k + 1) ⟨by omega,?_⟩ (by show _ < _; omega) (by simp only [go_sem,I])
   rw [List.take_succ_eq_append_getElem hlt,List.any_append,hinv]; simpa using h2
 ·have hge:¬ k < l.length:=by simpa using h
  (refine ev_ok 60 _ _ ?_; simp only [go_sem])
  refine R.retC (vc:=True) ?_ trivial
  rw [List.take_of_length_le (by omega)] at hinv
  rw [idxP_none hinv]; rfl
theorem containsFunc_plans_ok (l:List Plan) (p:Plan→Bool):FnC Tryz.prog 84 [.pd (.list 8 (l.map plan)),.fn (decides plan p l)] [B (l.any p)]:=by
 refine FnC.mk Tryz.func84 rfl ent84 (by simp [Tryz.ntmps84]) fun w G=>?_
 (refine ev_ok 40 _ _ ?_; simp only [go_sem])
 refine R.callC (indexFunc_plans_ok l p) rfl rfl (.cons (.pd _) (.cons (.fn _) .nil)) (by simp) (by simp only [go_sem]) ?_
 (refine ev_ok 40 _ _ ?_; simp only [go_sem,I])
 refine R.retC (vc:=True) ?_ trivial
 rw [← idxP_ge]; rfl
theorem ent38:Ent Tryz.prog 38:=fun args w=>(by kernel_rfl:(callFunc 38 args).run Tryz.prog w = .ok (.enter 38 args) w)
mutual
def grp:Plan→Bool
 | .mk k _ kids _ _ _ _ _=>k == 8 || grpL kids
def grpL:List Plan→Bool
 | []=>false
 | p :: l=>grp p || grpL l
end
theorem grpL_any:∀ l:List Plan,grpL l = l.any grp
 | []=>rfl
 | p :: l=>by rw [grpL,grpL_any l]; rfl
theorem grp_eq (p:Plan):grp p = (p.kind == 8 || p.kids.any grp):=by
 cases p; rw [grp,grpL_any]; rfl
theorem kids_lt {p x:Plan} (h:x ∈ p.kids):SizeOf.sizeOf x < SizeOf.sizeOf p:=by
 cases p
 have:=List.sizeOf_lt_of_mem h
 simp only [Plan.kids] at this
 simp only [Plan.mk.sizeOf_spec]; omega
theorem grouped_n:∀ (n:Nat) (p:Plan),SizeOf.sizeOf p ≤ n→FnC Tryz.prog 38 [.pd (plan p)] [B (grp p)]
 | 0,p,h=>by cases p; simp at h
 | n + 1,p,h=>by
  have ih:∀ x ∈ p.kids,FnC Tryz.prog 38 [.pd (plan x)] [B (grp x)]:=fun x hx=>grouped_n n x (by have:=kids_lt hx; omega)
  rw [plan_eq p]
  refine FnC.mk Tryz.func38 rfl ent38 (by simp [Tryz.ntmps38]) fun w G=>?_
  (refine ev_ok 80 _ _ ?_; simp only [go_sem])
  refine R.callG (rs:=[B (p.kids.any grp)]) rfl rfl rfl rfl (fun _=>⟨by simp [gok,Op.operands,Call.operands,evO,St.get,lk,SV.unbox],.cons (.pd _) (.cons (Co.func 38 _ ent38 (by rintro es r ⟨x,hx,rfl,rfl⟩; exact ih x hx)) .nil),containsFunc_plans_ok p.kids grp⟩) (by simp [plain,PD.plain]) (by (simp only [go_sem])) ?_
  (refine ev_ok 80 _ _ ?_; simp only [go_sem])
  refine R.retC (vc:=True) ?_ trivial
  have e:grp p = if (p.kind == 8) = true then true else p.kids.any grp:=by
   rw [grp_eq]; cases (p.kind == 8) <;> simp
  rw [e]; rfl
theorem grouped_ok (p:Plan):FnC Tryz.prog 38 [.pd (plan p)] [B (grp p)]:=grouped_n _ p (Nat.le_refl _)
end Go.Proofs.YtjbhhddfaohdnaaGreatDoor
end
section
namespace Go.Proofs.YtjbhhddfaohdnaaGreatDoor
open Go Go.Abs Go.Proofs
set_option maxRecDepth 10000
set_option maxHeartbeats 4000000
theorem ent157:Ent Tryz.prog 157:=fun args w=>(by kernel_rfl:(callFunc 157 args).run Tryz.prog w = .ok (.enter 157 args) w)
abbrev LIM:Value:=.iface 40 (.int .i64 3)
theorem fewN_ok (n m:Int):FnM Tryz.prog 157 [.pd (I n),.pd (I m)] [] [] (fun res M'=>M' = []∧if n ≤ m then res = .ret [] else res = .boom LIM):=by
 refine FnM.mk Tryz.func157 rfl ent157 (by simp [Tryz.ntmps157]) fun w G=>?_
 (refine ev_ok 80 _ _ ?_; simp only [go_sem])
 refine ⟨fun h=>?_,fun h=>?_⟩
 ·have h:¬ n ≤ m:=by simpa using h
  (refine ev_ok 80 _ _ ?_; simp only [go_sem])
  refine R.boom rfl rfl rfl ⟨rfl,?_⟩
  rw [if_neg h]
 ·have h:n ≤ m:=by simpa using h
  (refine ev_ok 80 _ _ ?_; simp only [go_sem])
  refine R.overM (vc:=True) [] rfl trivial ⟨rfl,?_⟩ (fun r m h=>by simp [lk] at h)
  rw [if_pos h]
end Go.Proofs.YtjbhhddfaohdnaaGreatDoor
end
section
namespace Go.Abs
def maskA (L:Array Bool):Nat:=(L.toList.zipIdx).foldl (fun m p=>if p.1 then m ||| 2 ^ p.2 else m) 0
def enB (all:Array Oper) (m i:Nat):Bool:=!m.testBit i && match all[i]? with | some o=>o.after.toList.all fun e=>!Region.binds .any e || m.testBit e.on | none=>false
def tabB (all:Array Oper) (es:List (Nat × Nat)):Bool:=
 true && (0 :: es.map fun p=>p.1 ||| 2 ^ p.2).all fun m=>(List.range all.size).all fun i=>!enB all m i || es.contains (m,i)
theorem fold_mask (j:Nat):∀ (l:List Bool) (n m:Nat),((l.zipIdx n).foldl (fun m p=>if p.1 then m ||| 2 ^ p.2 else m) m).testBit j = (m.testBit j || (decide (n ≤ j) && (l.getD (j - n) false)))
 | [],n,m=>by simp
 | b :: l,n,m=>by
  simp only [List.zipIdx_cons,List.foldl_cons]
  rw [fold_mask j l (n + 1)]
  by_cases h:j = n
  ·subst h
   cases b with
   | false=>simp; intro h; omega
   | true=>simp
  ·have e:(if b = true then m ||| 2 ^ n else m).testBit j = m.testBit j:=by
    cases b
    ·simp
    ·simp [Nat.testBit_or,Nat.testBit_two_pow,Ne.symm h]
   rw [e]
   by_cases h2:n ≤ j
   ·have h3:n + 1 ≤ j:=by omega
    have h4:j - n = (j - (n + 1)) + 1:=by omega
    simp only [h2,h3,decide_true,Bool.true_and,h4,List.getD_cons_succ]
   ·have h3:¬ n + 1 ≤ j:=by omega
    simp [h2,h3]
theorem maskA_bit (L:Array Bool) (j:Nat):(maskA L).testBit j = L.getD j false:=by
 unfold maskA
 rw [fold_mask j L.toList 0 0]
 simp [Array.getD_eq_getD_getElem?,List.getD_eq_getElem?_getD]
section
variable {C:Cx} {s:St} {all:Array Oper} {k:List KI}
theorem R.drawT {id:Nat} (T:Nat→St) (es:List (Nat × Nat)) (full:Nat) (hm:C.P.follows .mixedOrders = true) (hE:(all.toList.zipIdx).all (fun p=>edgesB p.2 p.1) = true) (hT:tabB all es = true) (hf:maskA (Array.replicate all.size true) = full)
  (h0:R C (.code (.region id all true) :: k) (T 0)→R C (.code (.region id all true) :: k) s)
  (step:∀ p ∈ es,R C (.ops all ((all.toList.drop p.2).take 1) :: .loopEnd (fun st=>st = T (p.1 ||| 2 ^ p.2)) :: k) (T p.1)) (done:R C k (T full)):R C (.code (.region id all true) :: k) s:=by
 refine h0 ?_
 unfold tabB at hT
 simp only [Bool.and_eq_true] at hT
 have hT:=(List.all_eq_true.1 hT.2)
 refine R.drawJ hm hE (fun L st=>st = T (maskA L)∧maskA L ∈ (0 :: es.map fun p=>p.1 ||| 2 ^ p.2)) ?_ ?_ ?_
 ·have:maskA (Array.replicate all.size false) = 0:=by
   apply Nat.eq_of_testBit_eq
   intro j
   rw [maskA_bit]; simp [Array.getD]
  exact ⟨by rw [this],by rw [this]; exact List.mem_cons_self ..⟩
 ·rintro L st i o hs ho hun hall ⟨rfl,hmem⟩
  have hi:=(Array.getElem?_eq_some_iff.1 ho).1
  have hen:enB all (maskA L) i = true:=by
   unfold enB
   rw [maskA_bit,hun,ho]
   simp only [Bool.not_false,Bool.true_and,List.all_eq_true]
   intro e he
   rw [maskA_bit]
   cases hb:Region.binds .any e with
   | false=>rfl
   | true=>rw [hall e (by simpa using he) hb]; rfl
  have hin:=(List.all_eq_true.1 (hT _ hmem)) i (by simpa using hi)
  rw [hen] at hin
  have hin:(maskA L,i) ∈ es:=by simpa using hin
  have hst:=step _ hin
  have hL:maskA (L.setIfInBounds i true) = maskA L ||| 2 ^ i:=by
   apply Nat.eq_of_testBit_eq
   intro j
   rw [maskA_bit,Nat.testBit_or,maskA_bit,Nat.testBit_two_pow]
   by_cases c:i = j
   ·subst c; rw [getD_set_self (by rw [hs]; exact hi)]; simp
   ·rw [getD_set_ne false c]; simp [c]
  have ho1:(all.toList.drop i).take 1 = [o]:=by
   have:all.toList[i]? = some o:=by simpa using ho
   obtain ⟨h1,h2⟩:=List.getElem?_eq_some_iff.1 this
   rw [List.drop_eq_getElem_cons h1,h2]; rfl
  simp only [ho1] at hst
  have:(fun st=>st = T (maskA L ||| 2 ^ i)) = fun st=>st = T (maskA (L.setIfInBounds i true)):=by rw [hL]
  rw [this] at hst
  intro a w E g
  have h1:=hst a w E g
  simp only [fin] at h1 ⊢
  have hq:∀ e a w,fin C (.loopEnd (fun st=>st = T (maskA (L.setIfInBounds i true))) :: k) e a w→fin C (.loopEnd (fun st=>st = T (maskA (L.setIfInBounds i true))∧maskA (L.setIfInBounds i true) ∈ (0 :: es.map fun p=>p.1 ||| 2 ^ p.2)) :: k) e a w:=by
   intro e a w h
   cases e with
   | normal=>
    obtain ⟨s',E',rfl,g'⟩:=h
    exact ⟨_,E',⟨rfl,List.mem_cons_of_mem _ (List.mem_map.2 ⟨_,hin,hL.symm⟩)⟩,g'⟩
   | exit _=>exact h
   | goto _=>exact h
   | ret=>exact h
   | panic _=>exact h
   | outgrown=>exact h
  simp only [wpList] at h1 ⊢
  split
  ·rename_i hw
   rw [if_pos hw] at h1
   rcases h1 with h1 | ⟨h1,a',w',h2⟩
   ·exact .inl (Oper.wp_monoQ (fun a w h=>hq .normal a w h) (fun e a w _ h=>hq e a w h) h1)
   ·exact .inr ⟨h1,a',w',hq _ _ _ h2⟩
  ·rename_i hw
   rw [if_neg hw] at h1
   exact hq .normal _ _ h1
 ·rintro st ⟨rfl,_⟩
  rw [hf]; exact done
end
end Go.Abs
end
