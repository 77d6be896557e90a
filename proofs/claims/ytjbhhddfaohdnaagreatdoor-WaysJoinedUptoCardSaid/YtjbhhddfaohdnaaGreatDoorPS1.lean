/- A part of the proof: V1, V2, S1. -/
import Derived.Test.YtjbhhddfaohdnaaGreatDoorPBv
import Derived.Sort.Walk0
import Derived.Lib.Strings
set_option linter.all false
set_option linter.deprecated false
section
namespace Go.Proofs.YtjbhhddfaohdnaaGreatDoor
open Go Go.Abs Go.Proofs
set_option maxRecDepth 10000
theorem ent146:Ent Tryz.prog 146:=fun _ _=>by kernel_rfl
theorem ent91:Ent Tryz.prog 91:=fun _ _=>by kernel_rfl
theorem ent158:Ent Tryz.prog 158:=fun _ _=>by kernel_rfl
theorem ent90:Ent Tryz.prog 90:=fun _ _=>by kernel_rfl
theorem orderI_ok (a b:Int):FnC Tryz.prog 91 [.pd (I a),.pd (I b)] [I (cmpI a b)]:=by
 refine FnC.mk Tryz.func91 rfl ent91 (by simp [Tryz.ntmps91]) fun w G=>?_
 (refine evP_ok [] 120 _ _ ?_; simp only [go_sem,evP,List.cons.injEq,SV.pd.injEq,and_true,true_and,Tryz.results91,ite_self])
 refine ⟨fun h=>?_,fun h=>⟨fun h2=>?_,fun h2=>?_⟩⟩ <;> simp at h <;> (try simp at h2) <;> (congr 3; unfold cmpI) <;> first | rw [if_pos h] | (rw [if_neg (by omega)]; first | rw [if_pos h2] | rw [if_neg (by omega)])
theorem toList_nil (t:ByteArray):(t.toList == ({ data:=#[] }:ByteArray).toList)=decide (t.size=0):=by
 have h1:t.toList=t.data.toList:=Lib.toList_data t
 have h2:({ data:=#[] }:ByteArray).toList=[]:=by rw [Lib.toList_data]
 rw [h1,h2]
 have h3:t.size=t.data.toList.length:=(Array.length_toList).symm
 rw [h3]
 generalize t.data.toList=l
 cases l <;> simp
theorem ifB (c d:Bool):(if c=true then d else false)=(c&&d):=by cases c <;> rfl
theorem valid_ok (v:V):FnC Tryz.prog 146 [.pd (val v)] [B (validV v)]:=by
 refine FnC.mk Tryz.func146 rfl ent146 (by simp [Tryz.ntmps146]) fun w G=>?_
 (refine evP_ok [] 120 _ _ ?_; simp only [go_sem,evP,List.cons.injEq,SV.pd.injEq,and_true,true_and,Tryz.results146,toList_nil,ifB])
 have hg:∀ a b:Int,(decide (a > b)=true)=(b<a):=by intros; simp
 by_cases k1:v.kind=1
 ·simp [validV,inR,k1]
  by_cases h:v.text.size≤200
  ·simp [h]; omega
  ·simp [h]; omega
 ·by_cases k0:v.text.size=0
  ·by_cases a0:v.kind=0
   ·simp [validV,inR,k0,a0]
   ·by_cases a2:v.kind=2
    ·simp [validV,inR,k0,a2]
    ·by_cases a3:v.kind=3
     ·simp [validV,inR,k0,a3]
     ·by_cases a4:v.kind=4
      ·simp [validV,inR,k0,a4]
      ·simp [validV,inR,k0,k1,a0,a2,a3,a4]
  ·simp [validV,k0,k1]
theorem bless (a b:ByteArray):Op.bytesLess a.toList b.toList=lessS a b:=by
 unfold lessS; rw [bytesLess_eq,Lib.toList_data,Lib.toList_data]
theorem bless2 (a b:ByteArray):(lessS a b || a.toList == b.toList) = !lessS b a:=by
 unfold lessS; rw [Lib.toList_data,Lib.toList_data]
 generalize a.data.toList=x
 generalize b.data.toList=y
 have h1:(x≤y)↔(x<y∨x=y):=List.le_iff_lt_or_eq
 have h2:¬ y<x↔x≤y:=List.not_lt
 by_cases h:y<x
 ·have:¬ (x<y∨x=y):=fun h3=>h2.2 (h1.2 h3) h
  simp only [not_or] at this
  simp [h,this.1,this.2]
 ·have:=h1.1 (h2.1 h)
  rcases this with h3 | h3
  ·simp [h,h3]
  ·simp [h3]
theorem orderS_ok (a b:ByteArray):FnC Tryz.prog 158 [.pd (S a),.pd (S b)] [I (cmpS a b)]:=by
 refine FnC.mk Tryz.func158 rfl ent158 (by simp [Tryz.ntmps158]) fun w G=>?_
 (refine evP_ok [] 120 _ _ ?_; simp only [go_sem,evP,List.cons.injEq,SV.pd.injEq,and_true,true_and,Tryz.results158,bless,bless2])
 unfold cmpS
 cases lessS a b <;> cases lessS b a <;> simp
theorem compareV_ok (a b:V):FnC Tryz.prog 90 [.pd (val a),.pd (val b)] [I (cmpV a b)]:=by
 refine FnC.mk Tryz.func90 rfl ent90 (by simp [Tryz.ntmps90]) fun w G=>?_
 (refine evP_ok [(11,.of (orderI_ok a.kind b.kind)),(19,.of (orderI_ok a.n b.n)),(27,.of (orderS_ok a.text b.text))] 120 _ _ ?_; simp only [go_sem,evP,List.cons.injEq,SV.pd.injEq,and_true,true_and,Tryz.results90,ite_self])
 unfold cmpV
 refine ⟨fun h=>?_,fun h=>⟨fun h2=>?_,fun h2=>?_⟩⟩ <;> simp at h <;> (try simp at h2)
 ·rw [if_pos h]
 ·rw [if_neg (by simp [h]),if_pos h2]
 ·rw [if_neg (by simp [h]),if_neg (by simp [h2])]
theorem ent44:Ent Tryz.prog 44:=fun _ _=>by kernel_rfl
theorem cmpR_nil (m:List V):cmpR [] m=cmpI 0 m.length:=by
 cases m with
 | nil=>rfl
 | cons y m=>simp only [cmpR,cmpI,List.length_cons]; rw [if_pos (by omega)]
theorem cmpR_nil' (m:List V):cmpR m []=cmpI m.length 0:=by
 cases m with
 | nil=>rfl
 | cons y m=>simp only [cmpR,cmpI,List.length_cons]; rw [if_neg (by omega),if_pos (by omega)]
theorem compareR_ok (a b:List V):FnC Tryz.prog 44 [.pd (vals a),.pd (vals b)] [I (cmpR a b)]:=by
 refine FnC.mk Tryz.func44 rfl ent44 (by simp [Tryz.ntmps44]) fun w G=>?_
 refine R.bound 0 (sz:=3) (ds:=a.map val) rfl fun hl=>?_
 have hl:a.length≤9223372036854775807:=by simpa [maxLen] using hl
 have hmin:(if (b.length:Int)<(a.length:Int) then (b.length:Int) else (a.length:Int))=((min a.length b.length:Nat):Int):=by
  split <;> omega
 (refine evC8 ?_; simp only [go_sem,List.cons.injEq,SV.pd.injEq,hmin])
 refine R.famU (fun (k:Nat) s=>St.lp [0,1,7,8,9,10,11,28,29,30,31,32] [(12,.pd (I k))] [] [] [] [] s) (fun (k:Nat)=>k≤a.length∧k≤b.length∧cmpR a b=cmpR (a.drop k) (b.drop k)) (fun (k:Nat)=>a.length - k) (0) (⟨by omega,by omega,by simp⟩) (by (simp only [go_sem]); all_goals (and_intros <;> rfl)) ?_
 rintro k ⟨hk,hkb,hinv⟩
 (refine evC8 ?_; simp only [go_sem,List.cons.injEq,SV.pd.injEq,ite_self])
 refine ⟨fun h=>?_,fun h=>?_⟩
 ·have hlt:k<a.length∧k<b.length:=by simp at h; omega
  obtain ⟨hlt,hltb⟩:=hlt
  rw [drop_cons hlt,drop_cons hltb,cmpR] at hinv
  (refine evC8 ?_; simp only [go_sem,List.cons.injEq,SV.pd.injEq,ite_self])
  refine R.drawE 8 80 mixed (by kernel_rfl) ?_; simp only [go_sem,getD_map,hlt,hltb]
  (repeat (refine And.intro (by omega) ?_))
  (refine evC_ok (cs:=[(23,.of (compareV_ok a[k] b[k]))]) 80 _ _ ?_; simp only [go_sem,List.cons.injEq,SV.pd.injEq,ite_self])
  refine ⟨fun h2=>?_,fun h2=>?_⟩
  ·(refine evC8 ?_; simp only [go_sem,List.cons.injEq,SV.pd.injEq,ite_self])
   refine R.retC (vc:=True) ?_ trivial
   rw [if_pos (by simpa using h2)] at hinv
   rw [hinv]; rfl
  ·(refine evC8 ?_; simp only [go_sem,List.cons.injEq,SV.pd.injEq,wrapN (k:=k) (by omega)])
   refine R.famEnd (k+1) ⟨by omega,by omega,by rw [if_neg (by simpa using h2)] at hinv; exact hinv⟩ (by show _<_; omega) (by (simp only [go_sem]); all_goals (and_intros <;> rfl))
 ·have hge:a.length≤k∨b.length≤k:=by simp at h; omega
  (refine evC_ok (cs:=[(32,.of (orderI_ok a.length b.length))]) 80 _ _ ?_; simp only [go_sem,List.cons.injEq,SV.pd.injEq,ite_self])
  refine R.retC (vc:=True) ?_ trivial
  have:cmpR a b=cmpI a.length b.length:=by
   rw [hinv]
   rcases hge with h1 | h1
   ·rw [List.drop_eq_nil_of_le h1,cmpR_nil,List.length_drop]; unfold cmpI; split <;> (try split) <;> (try split) <;> omega
   ·rw [List.drop_eq_nil_of_le h1,cmpR_nil',List.length_drop]; unfold cmpI; split <;> (try split) <;> (try split) <;> omega
  rw [this]; rfl
end Go.Proofs.YtjbhhddfaohdnaaGreatDoor
end
section
namespace Go.Proofs.YtjbhhddfaohdnaaGreatDoor
open Go Go.Abs Go.Proofs
set_option maxRecDepth 10000
set_option maxHeartbeats 4000000
theorem ent83:Ent Tryz.prog 83:=fun _ _=>by kernel_rfl
theorem ent291:Ent Tryz.prog 291:=fun _ _=>by kernel_rfl
theorem ent292:Ent Tryz.prog 292:=fun _ _=>by kernel_rfl
theorem ent293:Ent Tryz.prog 293:=fun _ _=>by kernel_rfl
theorem ent294:Ent Tryz.prog 294:=fun _ _=>by kernel_rfl
theorem ent253:Ent Tryz.prog 253:=fun _ _=>by kernel_rfl
theorem ent196:Ent Tryz.prog 196:=fun _ _=>by kernel_rfl
def fitV (kind:Int) (v:V):Bool:=validV v&&(v.kind == 0 || v.kind == kind)
theorem fit_ok (kind:Int) (v:V):FnC Tryz.prog 83 [.pd (I kind),.pd (val v)] [B (fitV kind v)]:=by
 refine FnC.mk Tryz.func83 rfl ent83 (by simp [Tryz.ntmps83]) fun w G=>?_
 (refine evQC_ok [(6,.of (valid_ok v))] 120 _ _ ?_; simp only [go_sem,evQ,rtC,↓reduceIte,List.cons.injEq,SV.pd.injEq,PD.raw.injEq,Value.bool.injEq,Value.int.injEq,Tryz.results83,ite_self])
 unfold fitV
 cases validV v <;> cases (v.kind == 0) <;> simp
theorem cmp1_ok (c:Int):FnC Tryz.prog 291 [.pd (I c)] [B (c == 0)]:=by
 refine FnC.mk Tryz.func291 rfl ent291 (by simp [Tryz.ntmps291]) fun w G=>?_
 (refine evQC_ok [] 120 _ _ ?_; simp only [go_sem,evQ,rtC,↓reduceIte,List.cons.injEq,SV.pd.injEq,PD.raw.injEq,Value.bool.injEq,Value.int.injEq,Tryz.results291,ite_self])
theorem cmp2_ok (c:Int):FnC Tryz.prog 292 [.pd (I c)] [B (c != 0)]:=by
 refine FnC.mk Tryz.func292 rfl ent292 (by simp [Tryz.ntmps292]) fun w G=>?_
 (refine evQC_ok [] 120 _ _ ?_; simp only [go_sem,evQ,rtC,↓reduceIte,List.cons.injEq,SV.pd.injEq,PD.raw.injEq,Value.bool.injEq,Value.int.injEq,Tryz.results292,ite_self])
theorem cmp3_ok (c:Int):FnC Tryz.prog 293 [.pd (I c)] [B (decide (c<0))]:=by
 refine FnC.mk Tryz.func293 rfl ent293 (by simp [Tryz.ntmps293]) fun w G=>?_
 (refine evQC_ok [] 120 _ _ ?_; simp only [go_sem,evQ,rtC,↓reduceIte,List.cons.injEq,SV.pd.injEq,PD.raw.injEq,Value.bool.injEq,Value.int.injEq,Tryz.results293,ite_self])
theorem cmp4_ok (c:Int):FnC Tryz.prog 294 [.pd (I c)] [B (decide (c≤0))]:=by
 refine FnC.mk Tryz.func294 rfl ent294 (by simp [Tryz.ntmps294]) fun w G=>?_
 (refine evQC_ok [] 120 _ _ ?_; simp only [go_sem,evQ,rtC,↓reduceIte,List.cons.injEq,SV.pd.injEq,PD.raw.injEq,Value.bool.injEq,Value.int.injEq,Tryz.results294,ite_self])
def comps:List (Int × Nat):=[(1,291),(2,292),(3,293),(4,294)]
abbrev cmpn (p:Int × Nat):PD:=.tup [I p.1,.raw (.func (.func p.2) #[] #[])]
def opB (op c:Int):Bool:=if op=1 then c == 0 else if op=2 then c != 0 else if op=3 then decide (c<0) else if op=4 then decide (c≤0) else false
theorem comps_ok (p:Int × Nat) (hp:p∈comps) (c:Int):FnC Tryz.prog p.2 [.pd (I c)] [B (opB p.1 c)]:=by
 simp only [comps,List.mem_cons,List.not_mem_nil,or_false] at hp
 rcases hp with rfl | rfl | rfl | rfl
 ·exact cmp1_ok c
 ·exact cmp2_ok c
 ·exact cmp3_ok c
 ·exact cmp4_ok c
theorem comparisons_ok:FnC Tryz.prog 253 [] [.list 2 (comps.map cmpn)]:=by
 refine FnC.mk Tryz.func253 rfl ent253 (by simp [Tryz.ntmps253]) fun w G=>?_
 (refine evQC_ok [] 120 _ _ ?_; simp only [go_sem,evQ,rtC,↓reduceIte,List.cons.injEq,SV.pd.injEq,PD.raw.injEq,Value.bool.injEq,Value.int.injEq,Tryz.results253,comps])
def testV (a:V) (op:Int) (b:V) (add:Int):Bool:=
 if !validV a || !validV b || a.kind != b.kind then false
 else if a.kind=2∨a.kind=3 then opB op (cmpI (a.n - b.n) add)
 else if a.kind=1∨a.kind=4 then (if add≠0 then false else opB op (cmpV a b)) else false
theorem validV_n {v:V} (h:validV v=true):-1000000000≤v.n∧v.n≤1000000000:=by
 unfold validV inR at h
 split at h
 ·cases h
 ·split at h
  ·simp at h; omega
  ·split at h
   ·simp at h; omega
   ·split at h
    ·simp at h; omega
    ·split at h
     ·simp at h; omega
     ·split at h
      ·simp at h; omega
      ·cases h
theorem opB_none {op:Int} (h:∀ j (h:j<comps.length),comps[j].1≠op) (c:Int):opB op c=false:=by
 have h1:=h 0 (by decide); have h2:=h 1 (by decide); have h3:=h 2 (by decide); have h4:=h 3 (by decide)
 simp only [comps,List.getElem_cons_zero,List.getElem_cons_succ] at h1 h2 h3 h4
 simp [opB,Ne.symm h1,Ne.symm h2,Ne.symm h3,Ne.symm h4]
theorem test_ok (a:V) (op:Int) (b:V) (add:Int):FnC Tryz.prog 196 [.pd (val a),.pd (I op),.pd (val b),.pd (I add)] [B (testV a op b add)]:=by
 refine FnC.mk Tryz.func196 rfl ent196 (by simp [Tryz.ntmps196]) fun w G=>?_
 cases ha:validV a with
 | false=>
  (refine evQC_ok [(13,.of (valid_ok a))] 120 _ _ ?_; simp only [go_sem,evQ,rtC,↓reduceIte,List.cons.injEq,SV.pd.injEq,PD.raw.injEq,Value.bool.injEq,Value.int.injEq,Tryz.results196,ha])
  simp [testV,ha]
 | true=>
  cases hb:validV b with
  | false=>
   (refine evQC_ok [(13,.of (valid_ok a)),(17,.of (valid_ok b))] 120 _ _ ?_; simp only [go_sem,evQ,rtC,↓reduceIte,List.cons.injEq,SV.pd.injEq,PD.raw.injEq,Value.bool.injEq,Value.int.injEq,Tryz.results196,ha,hb])
   simp [testV,hb]
  | true=>
   have h1:=validV_n ha
   have h2:=validV_n hb
   have hwr:IntKind.i64.wrap (a.n - b.n)=a.n - b.n:=wrap64 (by omega) (by omega)
   (refine evQC_ok [(13,.of (valid_ok a)),(17,.of (valid_ok b)),(38,.of (orderI_ok (a.n - b.n) add)),(46,.of (compareV_ok a b)),(47,.of (comparisons_ok))] 120 _ _ ?_; simp only [go_sem,evQ,rtC,↓reduceIte,List.cons.injEq,SV.pd.injEq,PD.raw.injEq,Value.bool.injEq,Value.int.injEq,Tryz.results196,ha,hb,hwr])
   split
   ·rename_i hk; simp [testV,hk]
   rename_i hk
   have hk:(a.kind != b.kind)=false:=by simpa using hk
   split
   ·rename_i k2
    have ht:testV a op b add=opB op (cmpI (a.n - b.n) add):=by
     have:a.kind=2:=by simpa using k2
     simp only [testV,ha,hb,hk]; simp [this]
    refine R.famU (fun (k:Nat) s=>St.lp [0,1,2,3,4,6,9,12,13,14,15,16,17,18,19,20,21,22,23,24,25,26,27,28,29,30,31,32,33,34,35,36,37,38,39,40,41,42,43,44,45,46,47,48] [(49,.pd (I k))] [4,6] [] [] [] s) (fun (k:Nat)=>k≤comps.length∧∀ j (h:j<comps.length),j<k→comps[j].1≠op) (fun (k:Nat)=>comps.length - k) (0) (⟨by omega,by intros; omega⟩) (by (simp only [go_sem]); all_goals (and_intros <;> rfl)) ?_
    rintro k ⟨hk,hinv⟩
    (refine evC8 ?_; simp only [go_sem,List.cons.injEq,SV.pd.injEq,ite_self])
    refine ⟨fun h=>?_,fun h=>?_⟩
    ·have hlt:k<comps.length:=by simpa using h
     have h4:comps.length=4:=rfl
     (refine evC8 ?_; simp only [go_sem,List.cons.injEq,SV.pd.injEq,getD_map,hlt])
     refine ⟨by omega,fun h2=>?_,fun h2=>?_⟩
     ·(refine evC8 ?_; simp only [go_sem,List.cons.injEq,SV.pd.injEq,ite_self])
      refine R.y rfl (dstP_ok (by (simp only [go_sem]))) (.callRaw 58 comps[k].2 _ _ [.pd (I (cmpI (a.n - b.n) add))] [B (opB comps[k].1 (cmpI (a.n - b.n) add))] false rfl rfl (.cons (.pd _) .nil) (comps_ok comps[k] (List.getElem_mem hlt) _) (by simp)) ?_
      (refine evC8 ?_; simp only [go_sem,List.cons.injEq,SV.pd.injEq,ite_self])
      refine R.retC (vc:=True) ?_ trivial
      have h2:comps[k].1=op:=by simpa using h2
      rw [ht,← h2]; rfl
     ·(refine evC8 ?_; simp only [go_sem,List.cons.injEq,SV.pd.injEq,wrapN (k:=k) (by omega)])
      refine R.famEnd (k+1) ⟨by omega,fun j hj hjk=>?_⟩ (by show _<_; omega) (by (simp only [go_sem]); all_goals (and_intros <;> rfl))
      rcases Nat.lt_or_ge j k with c1 | c1
      ·exact hinv j hj c1
      ·obtain rfl:j=k:=by omega
       simpa using h2
    ·have hge:¬ k<comps.length:=by simpa using h
     (refine evC8 ?_; simp only [go_sem,List.cons.injEq,SV.pd.injEq,ite_self])
     refine R.retC (vc:=True) ?_ trivial
     rw [ht,opB_none (fun j hj=>hinv j hj (by omega))]; rfl
   rename_i k2
   have k2:a.kind≠2:=by simpa using k2
   split
   ·rename_i k3
    have ht:testV a op b add=opB op (cmpI (a.n - b.n) add):=by
     have:a.kind=3:=by simpa using k3
     simp only [testV,ha,hb,hk]; simp [this]
    refine R.famU (fun (k:Nat) s=>St.lp [0,1,2,3,4,6,9,12,13,14,15,16,17,18,19,20,21,22,23,24,25,26,27,28,29,30,31,32,33,34,35,36,37,38,39,40,41,42,43,44,45,46,47,48] [(49,.pd (I k))] [4,6] [] [] [] s) (fun (k:Nat)=>k≤comps.length∧∀ j (h:j<comps.length),j<k→comps[j].1≠op) (fun (k:Nat)=>comps.length - k) (0) (⟨by omega,by intros; omega⟩) (by (simp only [go_sem]); all_goals (and_intros <;> rfl)) ?_
    rintro k ⟨hk,hinv⟩
    (refine evC8 ?_; simp only [go_sem,List.cons.injEq,SV.pd.injEq,ite_self])
    refine ⟨fun h=>?_,fun h=>?_⟩
    ·have hlt:k<comps.length:=by simpa using h
     have h4:comps.length=4:=rfl
     (refine evC8 ?_; simp only [go_sem,List.cons.injEq,SV.pd.injEq,getD_map,hlt])
     refine ⟨by omega,fun h2=>?_,fun h2=>?_⟩
     ·(refine evC8 ?_; simp only [go_sem,List.cons.injEq,SV.pd.injEq,ite_self])
      refine R.y rfl (dstP_ok (by (simp only [go_sem]))) (.callRaw 58 comps[k].2 _ _ [.pd (I (cmpI (a.n - b.n) add))] [B (opB comps[k].1 (cmpI (a.n - b.n) add))] false rfl rfl (.cons (.pd _) .nil) (comps_ok comps[k] (List.getElem_mem hlt) _) (by simp)) ?_
      (refine evC8 ?_; simp only [go_sem,List.cons.injEq,SV.pd.injEq,ite_self])
      refine R.retC (vc:=True) ?_ trivial
      have h2:comps[k].1=op:=by simpa using h2
      rw [ht,← h2]; rfl
     ·(refine evC8 ?_; simp only [go_sem,List.cons.injEq,SV.pd.injEq,wrapN (k:=k) (by omega)])
      refine R.famEnd (k+1) ⟨by omega,fun j hj hjk=>?_⟩ (by show _<_; omega) (by (simp only [go_sem]); all_goals (and_intros <;> rfl))
      rcases Nat.lt_or_ge j k with c1 | c1
      ·exact hinv j hj c1
      ·obtain rfl:j=k:=by omega
       simpa using h2
    ·have hge:¬ k<comps.length:=by simpa using h
     (refine evC8 ?_; simp only [go_sem,List.cons.injEq,SV.pd.injEq,ite_self])
     refine R.retC (vc:=True) ?_ trivial
     rw [ht,opB_none (fun j hj=>hinv j hj (by omega))]; rfl
   rename_i k3
   have k3:a.kind≠3:=by simpa using k3
   split
   ·rename_i k1
    have k1:a.kind=1:=by simpa using k1
    split
    ·rename_i hadd
     simp only [testV,ha,hb,hk]; simp [k1,show add≠0 by simpa using hadd]
    ·rename_i hadd
     have ht:testV a op b add=opB op (cmpV a b):=by
      simp only [testV,ha,hb,hk]; simp [k1,show add=0 by simpa using hadd]
     refine R.famU (fun (k:Nat) s=>St.lp [0,1,2,3,4,6,9,12,13,14,15,16,17,18,19,20,21,22,23,24,25,26,27,28,29,30,31,32,33,34,35,36,37,38,39,40,41,42,43,44,45,46,47,48] [(49,.pd (I k))] [4,6] [] [] [] s) (fun (k:Nat)=>k≤comps.length∧∀ j (h:j<comps.length),j<k→comps[j].1≠op) (fun (k:Nat)=>comps.length - k) (0) (⟨by omega,by intros; omega⟩) (by (simp only [go_sem]); all_goals (and_intros <;> rfl)) ?_
     rintro k ⟨hk,hinv⟩
     (refine evC8 ?_; simp only [go_sem,List.cons.injEq,SV.pd.injEq,ite_self])
     refine ⟨fun h=>?_,fun h=>?_⟩
     ·have hlt:k<comps.length:=by simpa using h
      have h4:comps.length=4:=rfl
      (refine evC8 ?_; simp only [go_sem,List.cons.injEq,SV.pd.injEq,getD_map,hlt])
      refine ⟨by omega,fun h2=>?_,fun h2=>?_⟩
      ·(refine evC8 ?_; simp only [go_sem,List.cons.injEq,SV.pd.injEq,ite_self])
       refine R.y rfl (dstP_ok (by (simp only [go_sem]))) (.callRaw 58 comps[k].2 _ _ [.pd (I (cmpV a b))] [B (opB comps[k].1 (cmpV a b))] false rfl rfl (.cons (.pd _) .nil) (comps_ok comps[k] (List.getElem_mem hlt) _) (by simp)) ?_
       (refine evC8 ?_; simp only [go_sem,List.cons.injEq,SV.pd.injEq,ite_self])
       refine R.retC (vc:=True) ?_ trivial
       have h2:comps[k].1=op:=by simpa using h2
       rw [ht,← h2]; rfl
      ·(refine evC8 ?_; simp only [go_sem,List.cons.injEq,SV.pd.injEq,wrapN (k:=k) (by omega)])
       refine R.famEnd (k+1) ⟨by omega,fun j hj hjk=>?_⟩ (by show _<_; omega) (by (simp only [go_sem]); all_goals (and_intros <;> rfl))
       rcases Nat.lt_or_ge j k with c1 | c1
       ·exact hinv j hj c1
       ·obtain rfl:j=k:=by omega
        simpa using h2
     ·have hge:¬ k<comps.length:=by simpa using h
      (refine evC8 ?_; simp only [go_sem,List.cons.injEq,SV.pd.injEq,ite_self])
      refine R.retC (vc:=True) ?_ trivial
      rw [ht,opB_none (fun j hj=>hinv j hj (by omega))]; rfl
   rename_i k1
   have k1:a.kind≠1:=by simpa using k1
   split
   ·rename_i k4
    have k4:a.kind=4:=by simpa using k4
    split
    ·rename_i hadd
     simp only [testV,ha,hb,hk]; simp [k4,show add≠0 by simpa using hadd]
    ·rename_i hadd
     have ht:testV a op b add=opB op (cmpV a b):=by
      simp only [testV,ha,hb,hk]; simp [k4,show add=0 by simpa using hadd]
     refine R.famU (fun (k:Nat) s=>St.lp [0,1,2,3,4,6,9,12,13,14,15,16,17,18,19,20,21,22,23,24,25,26,27,28,29,30,31,32,33,34,35,36,37,38,39,40,41,42,43,44,45,46,47,48] [(49,.pd (I k))] [4,6] [] [] [] s) (fun (k:Nat)=>k≤comps.length∧∀ j (h:j<comps.length),j<k→comps[j].1≠op) (fun (k:Nat)=>comps.length - k) (0) (⟨by omega,by intros; omega⟩) (by (simp only [go_sem]); all_goals (and_intros <;> rfl)) ?_
     rintro k ⟨hk,hinv⟩
     (refine evC8 ?_; simp only [go_sem,List.cons.injEq,SV.pd.injEq,ite_self])
     refine ⟨fun h=>?_,fun h=>?_⟩
     ·have hlt:k<comps.length:=by simpa using h
      have h4:comps.length=4:=rfl
      (refine evC8 ?_; simp only [go_sem,List.cons.injEq,SV.pd.injEq,getD_map,hlt])
      refine ⟨by omega,fun h2=>?_,fun h2=>?_⟩
      ·(refine evC8 ?_; simp only [go_sem,List.cons.injEq,SV.pd.injEq,ite_self])
       refine R.y rfl (dstP_ok (by (simp only [go_sem]))) (.callRaw 58 comps[k].2 _ _ [.pd (I (cmpV a b))] [B (opB comps[k].1 (cmpV a b))] false rfl rfl (.cons (.pd _) .nil) (comps_ok comps[k] (List.getElem_mem hlt) _) (by simp)) ?_
       (refine evC8 ?_; simp only [go_sem,List.cons.injEq,SV.pd.injEq,ite_self])
       refine R.retC (vc:=True) ?_ trivial
       have h2:comps[k].1=op:=by simpa using h2
       rw [ht,← h2]; rfl
      ·(refine evC8 ?_; simp only [go_sem,List.cons.injEq,SV.pd.injEq,wrapN (k:=k) (by omega)])
       refine R.famEnd (k+1) ⟨by omega,fun j hj hjk=>?_⟩ (by show _<_; omega) (by (simp only [go_sem]); all_goals (and_intros <;> rfl))
       rcases Nat.lt_or_ge j k with c1 | c1
       ·exact hinv j hj c1
       ·obtain rfl:j=k:=by omega
        simpa using h2
     ·have hge:¬ k<comps.length:=by simpa using h
      (refine evC8 ?_; simp only [go_sem,List.cons.injEq,SV.pd.injEq,ite_self])
      refine R.retC (vc:=True) ?_ trivial
      rw [ht,opB_none (fun j hj=>hinv j hj (by omega))]; rfl
   ·rename_i k4
    have k4:a.kind≠4:=by simpa using k4
    simp only [testV,ha,hb,hk]; simp [k1,k2,k3,k4]
end Go.Proofs.YtjbhhddfaohdnaaGreatDoor
end
section
namespace Go.Proofs.YtjbhhddfaohdnaaGreatDoor
open Go Go.Abs Go.Proofs
set_option maxRecDepth 10000
set_option maxHeartbeats 4000000
theorem ent37:Ent Tryz.prog 37:=fun _ _=>by kernel_rfl
theorem ent208:Ent Tryz.prog 208:=fun _ _=>by kernel_rfl
theorem ite_in {c:Prop} [Decidable c] {A B:Prop} (h1:c→A) (h2:¬ c→B):if c then A else B:=by
 split
 ·exact h1 (by assumption)
 ·exact h2 (by assumption)
def fitsV (l:List Attr) (row:List V):Bool:=decide (row.length=l.length)&&(l.zip row).all fun p=>fitV p.1.kind p.2
theorem fits_ok (t:Tbl) (row:List V):FnC Tryz.prog 37 [.pd (tbl t),.pd (vals row)] [B (fitsV t.attrs row)]:=by
 refine FnC.mk Tryz.func37 rfl ent37 (by simp [Tryz.ntmps37]) fun w G=>?_
 refine R.bound 1 (sz:=3) (ds:=row.map val) rfl fun hl=>?_
 have hl:row.length≤9223372036854775807:=by simpa [maxLen] using hl
 (refine evC8 ?_; simp only [go_sem,List.cons.injEq,SV.pd.injEq,ite_self])
 refine ⟨fun h=>?_,fun h=>?_⟩
 ·have h:row.length≠t.attrs.length:=by simp at h; omega
  (refine evQC_ok [] 120 _ _ ?_; simp only [go_sem,evQ,rtC,↓reduceIte,List.cons.injEq,SV.pd.injEq,PD.raw.injEq,Value.bool.injEq,Value.int.injEq,Tryz.results37,ite_self])
  simp [fitsV,h]
 have hlen:row.length=t.attrs.length:=by simp at h; omega
 (refine evC8 ?_; simp only [go_sem,List.cons.injEq,SV.pd.injEq,ite_self])
 refine R.famU (fun (k:Nat) s=>St.lp [0,1,2,6,7,8,9,10,11,12,13] [(14,.pd (I k))] [2] [] [] [] s) (fun (k:Nat)=>k≤row.length∧(t.attrs.zip row).all (fun p=>fitV p.1.kind p.2)=((t.attrs.drop k).zip (row.drop k)).all fun p=>fitV p.1.kind p.2) (fun (k:Nat)=>row.length - k) (0) (⟨by omega,by simp⟩) (by (simp only [go_sem]); all_goals (and_intros <;> rfl)) ?_
 rintro k ⟨hk,hinv⟩
 (refine evC8 ?_; simp only [go_sem,List.cons.injEq,SV.pd.injEq,ite_self])
 refine ⟨fun h=>?_,fun h=>?_⟩
 ·have hlt:k<row.length:=by simpa using h
  have hlta:k<t.attrs.length:=by omega
  rw [drop_cons hlt,drop_cons hlta,List.zip_cons_cons,List.all_cons] at hinv
  (refine evC8 ?_; simp only [go_sem,List.cons.injEq,SV.pd.injEq,ite_self])
  refine R.drawE 10 80 mixed (by kernel_rfl) ?_; simp only [go_sem,getD_map,hlt,hlta]
  (repeat (refine And.intro (by omega) ?_))
  (refine evC_ok (cs:=[(27,.of (fit_ok t.attrs[k].kind row[k]))]) 80 _ _ ?_; simp only [go_sem,List.cons.injEq,SV.pd.injEq,ite_self])
  refine ⟨fun h2=>?_,fun h2=>?_⟩
  ·(refine evQC_ok [] 120 _ _ ?_; simp only [go_sem,evQ,rtC,↓reduceIte,List.cons.injEq,SV.pd.injEq,PD.raw.injEq,Value.bool.injEq,Value.int.injEq,Tryz.results37,ite_self])
   have h2:fitV t.attrs[k].kind row[k]=false:=by simpa using h2
   rw [fitsV,hinv,h2]; simp
  ·(refine evC8 ?_; simp only [go_sem,List.cons.injEq,SV.pd.injEq,wrapN (k:=k) (by omega)])
   have h2:fitV t.attrs[k].kind row[k]=true:=by simpa using h2
   refine R.famEnd (k+1) ⟨by omega,by rw [hinv,h2]; simp⟩ (by show _<_; omega) (by (simp only [go_sem]); all_goals (and_intros <;> rfl))
 ·have hge:¬ k<row.length:=by simpa using h
  (refine evQC_ok [] 120 _ _ ?_; simp only [go_sem,evQ,rtC,↓reduceIte,List.cons.injEq,SV.pd.injEq,PD.raw.injEq,Value.bool.injEq,Value.int.injEq,Tryz.results37,ite_self])
  rw [fitsV,hinv,List.drop_eq_nil_of_le (by omega:row.length≤k)]; simp [hlen]
def alphaB (c:Nat):Bool:=(decide (97≤c)&&decide (c≤122)) || (decide (65≤c)&&decide (c≤90))
def laterB (c:Nat):Bool:=(decide (48≤c)&&decide (c≤57)) || c == 95
def nameL:Bool→List UInt8→Bool
 | _,[]=>true
 | first,c::l=>(alphaB c.toNat || (!first&&laterB c.toNat))&&nameL false l
def nameS (s:ByteArray):Bool:=nameL true s.data.toList&&decide (s.size≠0)&&decide (s.size≤24)
theorem name_ok (s:ByteArray) (hs:s.size≤9223372036854775807):FnC Tryz.prog 208 [.pd (S s)] [B (nameS s)]:=by
 have hsz:s.data.toList.length=s.size:=Array.length_toList
 refine FnC.mk Tryz.func208 rfl ent208 (by simp [Tryz.ntmps208]) fun w G=>?_
 (refine evC8 ?_; simp only [go_sem,List.cons.injEq,SV.pd.injEq,ite_self])
 refine R.famU (fun (k:Nat) s=>St.lp [0,5,6,42,43,44,45,46,47,48] [(7,.pd (I k))] [] [] [] [] s) (fun (k:Nat)=>k≤s.size∧nameL true s.data.toList=nameL (k == 0) (s.data.toList.drop k)) (fun (k:Nat)=>s.size - k) (0) (⟨by omega,by simp⟩) (by (simp only [go_sem]); all_goals (and_intros <;> rfl)) ?_
 rintro k ⟨hk,hinv⟩
 (refine evC8 ?_; simp only [go_sem,List.cons.injEq,SV.pd.injEq,ite_self])
 refine ⟨fun h=>?_,fun h=>?_⟩
 ·have hlt:k<s.size:=by simpa using h
  have hltl:k<s.data.toList.length:=by omega
  rw [drop_cons hltl,nameL] at hinv
  have hget:s.data.toList.getD k 0=s.data.toList[k]:=by rw [List.getD_eq_getElem?_getD,List.getElem?_eq_getElem hltl]; rfl
  have hc:=s.data.toList[k].toNat_lt
  generalize hcc:s.data.toList[k].toNat=c at hinv hc
  (refine evQC_ok [] 120 _ _ ?_; simp only [go_sem,evQ,rtC,↓reduceIte,List.cons.injEq,SV.pd.injEq,PD.raw.injEq,Value.bool.injEq,Value.int.injEq,Tryz.results208,hget,hcc,wrapN (k:=k) (by omega)])
  refine ⟨by omega,?_⟩
  have yes:(alphaB c || !(k == 0)&&laterB c)=true→nameL true s.data.toList=nameL (k+1 == 0) (s.data.toList.drop (k+1)):=fun e=>by
   rw [hinv,e]; simp
  have no:(alphaB c || !(k == 0)&&laterB c)=false→false=nameS s:=fun e=>by
   rw [nameS,hinv,e]; simp
  clear hinv hget hcc
  repeat' (refine ite_in (fun _=>?_) (fun _=>?_))
  all_goals first
   | (refine R.famEnd (k+1) ⟨by omega,yes ?_⟩ (by show _<_; omega) (by (simp only [go_sem])); simp_all [alphaB,laterB]; try omega)
   | (refine no ?_; simp_all [alphaB,laterB]; try omega)
 ·have hge:¬ k<s.size:=by simpa using h
  have:s.data.toList.drop k=[]:=List.drop_eq_nil_of_le (by omega)
  rw [this] at hinv
  have e:nameS s=(!decide (s.size=0)&&decide ((s.size:Int)≤24)):=by
   unfold nameS; rw [hinv,nameL,Bool.true_and,← decide_not]; congr 1; simp only [decide_eq_decide]; omega
  (refine evQC_ok [] 120 _ _ ?_; simp only [go_sem,evQ,rtC,↓reduceIte,List.cons.injEq,SV.pd.injEq,PD.raw.injEq,Value.bool.injEq,Value.int.injEq,Tryz.results208,toList_nil,ifB,e])
  cases decide (s.size=0) <;> simp
end Go.Proofs.YtjbhhddfaohdnaaGreatDoor
end
