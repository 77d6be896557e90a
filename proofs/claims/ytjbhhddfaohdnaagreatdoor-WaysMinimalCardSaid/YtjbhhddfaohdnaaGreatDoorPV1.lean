/- A part of the proof: V1. -/
import Derived.Test.YtjbhhddfaohdnaaGreatDoorPBv
import Derived.Sort.Walk0
import Derived.Lib.Strings
set_option linter.all false
set_option linter.deprecated false
namespace Go.Proofs.YtjbhhddfaohdnaaGreatDoor
open Go Go.Abs Go.Proofs
set_option maxRecDepth 10000
theorem ent146:Ent Tryz.prog 146:=fun args w=>(by kernel_rfl:(callFunc 146 args).run Tryz.prog w = .ok (.enter 146 args) w)
theorem ent91:Ent Tryz.prog 91:=fun args w=>(by kernel_rfl:(callFunc 91 args).run Tryz.prog w = .ok (.enter 91 args) w)
theorem ent158:Ent Tryz.prog 158:=fun args w=>(by kernel_rfl:(callFunc 158 args).run Tryz.prog w = .ok (.enter 158 args) w)
theorem ent90:Ent Tryz.prog 90:=fun args w=>(by kernel_rfl:(callFunc 90 args).run Tryz.prog w = .ok (.enter 90 args) w)
theorem orderI_ok (a b:Int):FnC Tryz.prog 91 [.pd (I a),.pd (I b)] [I (cmpI a b)]:=by
 refine FnC.mk Tryz.func91 rfl ent91 (by simp [Tryz.ntmps91]) fun w G=>?_
 (refine evP_ok [] 120 _ _ ?_; simp only [go_sem,evP,ev2,con_f,con_args,con_rs,plainA,List.cons.injEq,SV.pd.injEq,and_true,true_and,Tryz.results91,ite_self])
 refine ⟨fun h=>?_,fun h=>⟨fun h2=>?_,fun h2=>?_⟩⟩ <;> simp at h <;> (try simp at h2) <;> (congr 3; unfold cmpI) <;> first | rw [if_pos h] | (rw [if_neg (by omega)]; first | rw [if_pos h2] | rw [if_neg (by omega)])
theorem toList_nil (t:ByteArray):(t.toList == ({ data:=#[] }:ByteArray).toList) = decide (t.size = 0):=by
 have h1:t.toList = t.data.toList:=Lib.toList_data t
 have h2:({ data:=#[] }:ByteArray).toList = []:=by rw [Lib.toList_data]
 rw [h1,h2]
 have h3:t.size = t.data.toList.length:=(Array.length_toList).symm
 rw [h3]
 generalize t.data.toList = l
 cases l <;> simp
theorem ifB (c d:Bool):(if c = true then d else false) = (c && d):=by cases c <;> rfl
theorem valid_ok (v:V):FnC Tryz.prog 146 [.pd (val v)] [B (validV v)]:=by
 refine FnC.mk Tryz.func146 rfl ent146 (by simp [Tryz.ntmps146]) fun w G=>?_
 (refine evP_ok [] 120 _ _ ?_; simp only [go_sem,evP,ev2,con_f,con_args,con_rs,plainA,List.cons.injEq,SV.pd.injEq,and_true,true_and,Tryz.results146,toList_nil,ifB])
 have hg:∀ a b:Int,(decide (a > b) = true) = (b < a):=by intros; simp
 by_cases k1:v.kind = 1
 ·simp [validV,inR,k1]
  by_cases h:v.text.size ≤ 200
  ·simp [h]; omega
  ·simp [h]; omega
 ·by_cases k0:v.text.size = 0
  ·by_cases a0:v.kind = 0
   ·simp [validV,inR,k0,a0]
   ·by_cases a2:v.kind = 2
    ·simp [validV,inR,k0,a2]
    ·by_cases a3:v.kind = 3
     ·simp [validV,inR,k0,a3]
     ·by_cases a4:v.kind = 4
      ·simp [validV,inR,k0,a4]
      ·simp [validV,inR,k0,k1,a0,a2,a3,a4]
  ·simp [validV,k0,k1]
theorem bless (a b:ByteArray):Op.bytesLess a.toList b.toList = lessS a b:=by
 unfold lessS; rw [bytesLess_eq,Lib.toList_data,Lib.toList_data]
theorem bless2 (a b:ByteArray):(lessS a b || a.toList == b.toList) = !lessS b a:=by
 unfold lessS; rw [Lib.toList_data,Lib.toList_data]
 generalize a.data.toList = x
 generalize b.data.toList = y
 have h1:(x ≤ y) ↔ (x < y ∨ x = y):=List.le_iff_lt_or_eq
 have h2:¬ y < x ↔ x ≤ y:=List.not_lt
 by_cases h:y < x
 ·have:¬ (x < y ∨ x = y):=fun h3=>h2.2 (h1.2 h3) h
  simp only [not_or] at this
  simp [h,this.1,this.2]
 ·have:=h1.1 (h2.1 h)
  rcases this with h3 | h3
  ·simp [h,h3]
  ·simp [h3]
theorem orderS_ok (a b:ByteArray):FnC Tryz.prog 158 [.pd (S a),.pd (S b)] [I (cmpS a b)]:=by
 refine FnC.mk Tryz.func158 rfl ent158 (by simp [Tryz.ntmps158]) fun w G=>?_
 (refine evP_ok [] 120 _ _ ?_; simp only [go_sem,evP,ev2,con_f,con_args,con_rs,plainA,List.cons.injEq,SV.pd.injEq,and_true,true_and,Tryz.results158,bless,bless2])
 unfold cmpS
 cases lessS a b <;> cases lessS b a <;> simp
theorem compareV_ok (a b:V):FnC Tryz.prog 90 [.pd (val a),.pd (val b)] [I (cmpV a b)]:=by
 refine FnC.mk Tryz.func90 rfl ent90 (by simp [Tryz.ntmps90]) fun w G=>?_
 (refine evP_ok [(11,.of (orderI_ok a.kind b.kind)),(19,.of (orderI_ok a.n b.n)),(27,.of (orderS_ok a.text b.text))] 120 _ _ ?_; simp only [go_sem,evP,ev2,con_f,con_args,con_rs,plainA,List.cons.injEq,SV.pd.injEq,and_true,true_and,Tryz.results90,ite_self])
 unfold cmpV
 refine ⟨fun h=>?_,fun h=>⟨fun h2=>?_,fun h2=>?_⟩⟩ <;> simp at h <;> (try simp at h2)
 ·rw [if_pos h]
 ·rw [if_neg (by simp [h]),if_pos h2]
 ·rw [if_neg (by simp [h]),if_neg (by simp [h2])]
theorem ent44:Ent Tryz.prog 44:=fun args w=>(by kernel_rfl:(callFunc 44 args).run Tryz.prog w = .ok (.enter 44 args) w)
theorem cmpR_nil (m:List V):cmpR [] m = cmpI 0 m.length:=by
 cases m with
 | nil=>rfl
 | cons y m=>simp only [cmpR,cmpI,List.length_cons]; rw [if_pos (by omega)]
theorem cmpR_nil' (m:List V):cmpR m [] = cmpI m.length 0:=by
 cases m with
 | nil=>rfl
 | cons y m=>simp only [cmpR,cmpI,List.length_cons]; rw [if_neg (by omega),if_pos (by omega)]
theorem compareR_ok (a b:List V):FnC Tryz.prog 44 [.pd (vals a),.pd (vals b)] [I (cmpR a b)]:=by
 refine FnC.mk Tryz.func44 rfl ent44 (by simp [Tryz.ntmps44]) fun w G=>?_
 refine R.bound 0 (sz:=3) (ds:=a.map val) rfl fun hl=>?_
 have hl:a.length ≤ 9223372036854775807:=by simpa [maxLen] using hl
 have hmin:(if (b.length:Int) < (a.length:Int) then (b.length:Int) else (a.length:Int)) = ((min a.length b.length:Nat):Int):=by
  split <;> omega
 (refine evC_ok (cs:=[]) 80 _ _ ?_; simp only [go_sem,evC,ev2,con_f,con_args,con_rs,plainA,List.cons.injEq,SV.pd.injEq,hmin])
 refine R.famU (fun (k:Nat) s=>St.lp [0,1,7,8,9,10,11,28,29,30,31,32] [(12,.pd (I k))] [] [] [] [] s) (fun (k:Nat)=>k ≤ a.length∧k ≤ b.length∧cmpR a b = cmpR (a.drop k) (b.drop k)) (fun (k:Nat)=>a.length - k) (0) (⟨by omega,by omega,by simp⟩) (by (simp only [go_sem]); all_goals (and_intros <;> rfl)) ?_
 rintro k ⟨hk,hkb,hinv⟩
 (refine evC_ok (cs:=[]) 80 _ _ ?_; simp only [go_sem,evC,ev2,con_f,con_args,con_rs,plainA,List.cons.injEq,SV.pd.injEq,ite_self])
 refine ⟨fun h=>?_,fun h=>?_⟩
 ·have hlt:k < a.length∧k < b.length:=by simp at h; omega
  obtain ⟨hlt,hltb⟩:=hlt
  rw [drop_cons hlt,drop_cons hltb,cmpR] at hinv
  (refine evC_ok (cs:=[]) 80 _ _ ?_; simp only [go_sem,evC,ev2,con_f,con_args,con_rs,plainA,List.cons.injEq,SV.pd.injEq,ite_self])
  refine R.drawE 8 80 mixed (by kernel_rfl) ?_; simp only [go_sem,getD_map,hlt,hltb]
  (repeat (refine And.intro (by omega) ?_))
  (refine evC_ok (cs:=[(23,.of (compareV_ok a[k] b[k]))]) 80 _ _ ?_; simp only [go_sem,evC,ev2,con_f,con_args,con_rs,plainA,List.cons.injEq,SV.pd.injEq,ite_self])
  refine ⟨fun h2=>?_,fun h2=>?_⟩
  ·(refine evC_ok (cs:=[]) 80 _ _ ?_; simp only [go_sem,evC,ev2,con_f,con_args,con_rs,plainA,List.cons.injEq,SV.pd.injEq,ite_self])
   refine R.retC (vc:=True) ?_ trivial
   rw [if_pos (by simpa using h2)] at hinv
   rw [hinv]; rfl
  ·(refine evC_ok (cs:=[]) 80 _ _ ?_; simp only [go_sem,evC,ev2,con_f,con_args,con_rs,plainA,List.cons.injEq,SV.pd.injEq,wrapN (k:=k) (by omega)])
   refine R.famEnd (k + 1) ⟨by omega,by omega,by rw [if_neg (by simpa using h2)] at hinv; exact hinv⟩ (by show _ < _; omega) (by (simp only [go_sem]); all_goals (and_intros <;> rfl))
 ·have hge:a.length ≤ k ∨ b.length ≤ k:=by simp at h; omega
  (refine evC_ok (cs:=[(32,.of (orderI_ok a.length b.length))]) 80 _ _ ?_; simp only [go_sem,evC,ev2,con_f,con_args,con_rs,plainA,List.cons.injEq,SV.pd.injEq,ite_self])
  refine R.retC (vc:=True) ?_ trivial
  have:cmpR a b = cmpI a.length b.length:=by
   rw [hinv]
   rcases hge with h1 | h1
   ·rw [List.drop_eq_nil_of_le h1,cmpR_nil,List.length_drop]; unfold cmpI; split <;> (try split) <;> (try split) <;> omega
   ·rw [List.drop_eq_nil_of_le h1,cmpR_nil',List.length_drop]; unfold cmpI; split <;> (try split) <;> (try split) <;> omega
  rw [this]; rfl
end Go.Proofs.YtjbhhddfaohdnaaGreatDoor
