/- A part of the proof: Drt. -/
import Derived.Test.YtjbhhddfaohdnaaGreatDoorPOwn
set_option linter.all false
set_option linter.deprecated false
namespace Go.Abs
def maskA (L:Array Bool):Nat:=(L.toList.zipIdx).foldl (fun m p=>if p.1 then m ||| 2 ^ p.2 else m) 0
def enB (all:Array Oper) (m i:Nat):Bool:=!m.testBit i&&match all[i]? with | some o=>o.after.toList.all fun e=>!Region.binds .any e || m.testBit e.on | none=>false
def tabB (all:Array Oper) (es:List (Nat × Nat)):Bool:=
 true&&(0::es.map fun p=>p.1 ||| 2 ^ p.2).all fun m=>(List.range all.size).all fun i=>!enB all m i || es.contains (m,i)
theorem fold_mask (j:Nat):∀ (l:List Bool) (n m:Nat),((l.zipIdx n).foldl (fun m p=>if p.1 then m ||| 2 ^ p.2 else m) m).testBit j=(m.testBit j || (decide (n≤j)&&(l.getD (j - n) false)))
 | [],n,m=>by simp
 | b::l,n,m=>by
  simp only [List.zipIdx_cons,List.foldl_cons]
  rw [fold_mask j l (n+1)]
  by_cases h:j=n
  ·subst h
   cases b with
   | false=>simp; intro h; omega
   | true=>simp
  ·have e:(if b=true then m ||| 2 ^ n else m).testBit j=m.testBit j:=by
    cases b
    ·simp
    ·simp [Nat.testBit_or,Nat.testBit_two_pow,Ne.symm h]
   rw [e]
   by_cases h2:n≤j
   ·have h3:n+1≤j:=by omega
    have h4:j - n=(j - (n+1))+1:=by omega
    simp only [h2,h3,decide_true,Bool.true_and,h4,List.getD_cons_succ]
   ·have h3:¬ n+1≤j:=by omega
    simp [h2,h3]
theorem maskA_bit (L:Array Bool) (j:Nat):(maskA L).testBit j=L.getD j false:=by
 unfold maskA
 rw [fold_mask j L.toList 0 0]
 simp [Array.getD_eq_getD_getElem?,List.getD_eq_getElem?_getD]
section
variable {C:Cx} {s:St} {all:Array Oper} {k:List KI}
theorem R.drawT {id:Nat} (T:Nat→St) (es:List (Nat × Nat)) (full:Nat) (hm:C.P.follows .mixedOrders=true) (hE:(all.toList.zipIdx).all (fun p=>edgesB p.2 p.1)=true) (hT:tabB all es=true) (hf:maskA (Array.replicate all.size true)=full)
  (h0:R C (.code (.region id all true)::k) (T 0)→R C (.code (.region id all true)::k) s)
  (step:∀ p∈es,R C (.ops all ((all.toList.drop p.2).take 1) :: .loopEnd (fun st=>st=T (p.1 ||| 2 ^ p.2))::k) (T p.1)) (done:R C k (T full)):R C (.code (.region id all true)::k) s:=by
 refine h0 ?_
 unfold tabB at hT
 simp only [Bool.and_eq_true] at hT
 have hT:=(List.all_eq_true.1 hT.2)
 refine R.drawJ hm hE (fun L st=>st=T (maskA L)∧maskA L∈(0::es.map fun p=>p.1 ||| 2 ^ p.2)) ?_ ?_ ?_
 ·have:maskA (Array.replicate all.size false)=0:=by
   apply Nat.eq_of_testBit_eq
   intro j
   rw [maskA_bit]; simp [Array.getD]
  exact ⟨by rw [this],by rw [this]; exact List.mem_cons_self ..⟩
 ·rintro L st i o hs ho hun hall ⟨rfl,hmem⟩
  have hi:=(Array.getElem?_eq_some_iff.1 ho).1
  have hen:enB all (maskA L) i=true:=by
   unfold enB
   rw [maskA_bit,hun,ho]
   simp only [Bool.not_false,Bool.true_and,List.all_eq_true]
   intro e he
   rw [maskA_bit]
   cases hb:Region.binds .any e with
   | false=>rfl
   | true=>rw [hall e (by simpa using he) hb]; rfl
  have hin:=(List.all_eq_true.1 (hT _ hmem)) i (by simpa using hi)
  rw [hen] at hin
  have hin:(maskA L,i)∈es:=by simpa using hin
  have hst:=step _ hin
  have hL:maskA (L.setIfInBounds i true)=maskA L ||| 2 ^ i:=by
   apply Nat.eq_of_testBit_eq
   intro j
   rw [maskA_bit,Nat.testBit_or,maskA_bit,Nat.testBit_two_pow]
   by_cases c:i=j
   ·subst c; rw [getD_set_self (by rw [hs]; exact hi)]; simp
   ·rw [getD_set_ne false c]; simp [c]
  have ho1:(all.toList.drop i).take 1=[o]:=by
   have:all.toList[i]? = some o:=by simpa using ho
   obtain ⟨h1,h2⟩:=List.getElem?_eq_some_iff.1 this
   rw [List.drop_eq_getElem_cons h1,h2]; rfl
  simp only [ho1] at hst
  have:(fun st=>st=T (maskA L ||| 2 ^ i))=fun st=>st=T (maskA (L.setIfInBounds i true)):=by rw [hL]
  rw [this] at hst
  intro a w E g
  have h1:=hst a w E g
  simp only [fin] at h1 ⊢
  have hq:∀ e a w,fin C (.loopEnd (fun st=>st=T (maskA (L.setIfInBounds i true)))::k) e a w→fin C (.loopEnd (fun st=>st=T (maskA (L.setIfInBounds i true))∧maskA (L.setIfInBounds i true)∈(0::es.map fun p=>p.1 ||| 2 ^ p.2))::k) e a w:=by
   intro e a w h
   cases e with
   | normal=>
    obtain ⟨s',E',rfl,g'⟩:=h
    exact ⟨_,E',⟨rfl,List.mem_cons_of_mem _ (List.mem_map.2 ⟨_,hin,hL.symm⟩)⟩,g'⟩
   | exit _=>exact h
   | goto _=>exact h
   | ret=>exact h
   | panic _=>exact h
   | outgrown=>exact h
  simp only [wpList] at h1 ⊢
  split
  ·rename_i hw
   rw [if_pos hw] at h1
   rcases h1 with h1 | ⟨h1,a',w',h2⟩
   ·exact .inl (Oper.wp_monoQ (fun a w h=>hq .normal a w h) (fun e a w _ h=>hq e a w h) h1)
   ·exact .inr ⟨h1,a',w',hq _ _ _ h2⟩
  ·rename_i hw
   rw [if_neg hw] at h1
   exact hq .normal _ _ h1
 ·rintro st ⟨rfl,_⟩
  rw [hf]; exact done
end
end Go.Abs
