/- A part of the proof: S1. -/
import Derived.Test.YtjbhhddfaohdnaaGreatDoorPV2
set_option linter.all false
set_option linter.deprecated false
namespace Go.Proofs.YtjbhhddfaohdnaaGreatDoor
open Go Go.Abs Go.Proofs
set_option maxRecDepth 10000
set_option maxHeartbeats 4000000
theorem ent37:Ent Tryz.prog 37:=fun args w=>(by kernel_rfl:(callFunc 37 args).run Tryz.prog w = .ok (.enter 37 args) w)
theorem ent208:Ent Tryz.prog 208:=fun args w=>(by kernel_rfl:(callFunc 208 args).run Tryz.prog w = .ok (.enter 208 args) w)
theorem ite_in {c:Prop} [Decidable c] {A B:Prop} (h1:c→A) (h2:¬ c→B):if c then A else B:=by
 split
 ·exact h1 (by assumption)
 ·exact h2 (by assumption)
def fitsV (l:List Attr) (row:List V):Bool:=decide (row.length = l.length) && (l.zip row).all fun p=>fitV p.1.kind p.2
theorem fits_ok (t:Tbl) (row:List V):FnC Tryz.prog 37 [.pd (tbl t),.pd (vals row)] [B (fitsV t.attrs row)]:=by
 refine FnC.mk Tryz.func37 rfl ent37 (by simp [Tryz.ntmps37]) fun w G=>?_
 refine R.bound 1 (sz:=3) (ds:=row.map val) rfl fun hl=>?_
 have hl:row.length ≤ 9223372036854775807:=by simpa [maxLen] using hl
 (refine evC_ok (cs:=[]) 80 _ _ ?_; simp only [go_sem,evC,ev2,con_f,con_args,con_rs,plainA,List.cons.injEq,SV.pd.injEq,ite_self])
 refine ⟨fun h=>?_,fun h=>?_⟩
 ·have h:row.length ≠ t.attrs.length:=by simp at h; omega
  (refine evQC_ok [] 120 _ _ ?_; simp only [go_sem,evQ,rtC,ev2,con_f,con_args,con_rs,plainA,↓reduceIte,List.cons.injEq,SV.pd.injEq,PD.raw.injEq,Value.bool.injEq,Value.int.injEq,Tryz.results37,ite_self])
  simp [fitsV,h]
 have hlen:row.length = t.attrs.length:=by simp at h; omega
 (refine evC_ok (cs:=[]) 80 _ _ ?_; simp only [go_sem,evC,ev2,con_f,con_args,con_rs,plainA,List.cons.injEq,SV.pd.injEq,ite_self])
 refine R.famU (fun (k:Nat) s=>St.lp [0,1,2,6,7,8,9,10,11,12,13] [(14,.pd (I k))] [2] [] [] [] s) (fun (k:Nat)=>k ≤ row.length∧(t.attrs.zip row).all (fun p=>fitV p.1.kind p.2) = ((t.attrs.drop k).zip (row.drop k)).all fun p=>fitV p.1.kind p.2) (fun (k:Nat)=>row.length - k) (0) (⟨by omega,by simp⟩) (by (simp only [go_sem]); all_goals (and_intros <;> rfl)) ?_
 rintro k ⟨hk,hinv⟩
 (refine evC_ok (cs:=[]) 80 _ _ ?_; simp only [go_sem,evC,ev2,con_f,con_args,con_rs,plainA,List.cons.injEq,SV.pd.injEq,ite_self])
 refine ⟨fun h=>?_,fun h=>?_⟩
 ·have hlt:k < row.length:=by simpa using h
  have hlta:k < t.attrs.length:=by omega
  rw [drop_cons hlt,drop_cons hlta,List.zip_cons_cons,List.all_cons] at hinv
  (refine evC_ok (cs:=[]) 80 _ _ ?_; simp only [go_sem,evC,ev2,con_f,con_args,con_rs,plainA,List.cons.injEq,SV.pd.injEq,ite_self])
  refine R.drawE 10 80 mixed (by kernel_rfl) ?_; simp only [go_sem,getD_map,hlt,hlta]
  (repeat (refine And.intro (by omega) ?_))
  (refine evC_ok (cs:=[(27,.of (fit_ok t.attrs[k].kind row[k]))]) 80 _ _ ?_; simp only [go_sem,evC,ev2,con_f,con_args,con_rs,plainA,List.cons.injEq,SV.pd.injEq,ite_self])
  refine ⟨fun h2=>?_,fun h2=>?_⟩
  ·(refine evQC_ok [] 120 _ _ ?_; simp only [go_sem,evQ,rtC,ev2,con_f,con_args,con_rs,plainA,↓reduceIte,List.cons.injEq,SV.pd.injEq,PD.raw.injEq,Value.bool.injEq,Value.int.injEq,Tryz.results37,ite_self])
   have h2:fitV t.attrs[k].kind row[k] = false:=by simpa using h2
   rw [fitsV,hinv,h2]; simp
  ·(refine evC_ok (cs:=[]) 80 _ _ ?_; simp only [go_sem,evC,ev2,con_f,con_args,con_rs,plainA,List.cons.injEq,SV.pd.injEq,wrapN (k:=k) (by omega)])
   have h2:fitV t.attrs[k].kind row[k] = true:=by simpa using h2
   refine R.famEnd (k + 1) ⟨by omega,by rw [hinv,h2]; simp⟩ (by show _ < _; omega) (by (simp only [go_sem]); all_goals (and_intros <;> rfl))
 ·have hge:¬ k < row.length:=by simpa using h
  (refine evQC_ok [] 120 _ _ ?_; simp only [go_sem,evQ,rtC,ev2,con_f,con_args,con_rs,plainA,↓reduceIte,List.cons.injEq,SV.pd.injEq,PD.raw.injEq,Value.bool.injEq,Value.int.injEq,Tryz.results37,ite_self])
  rw [fitsV,hinv,List.drop_eq_nil_of_le (by omega:row.length ≤ k)]; simp [hlen]
def alphaB (c:Nat):Bool:=(decide (97 ≤ c) && decide (c ≤ 122)) || (decide (65 ≤ c) && decide (c ≤ 90))
def laterB (c:Nat):Bool:=(decide (48 ≤ c) && decide (c ≤ 57)) || c == 95
def nameL:Bool→List UInt8→Bool
 | _,[]=>true
 | first,c :: l=>(alphaB c.toNat || (!first && laterB c.toNat)) && nameL false l
def nameS (s:ByteArray):Bool:=nameL true s.data.toList && decide (s.size ≠ 0) && decide (s.size ≤ 24)
theorem name_ok (s:ByteArray) (hs:s.size ≤ 9223372036854775807):FnC Tryz.prog 208 [.pd (S s)] [B (nameS s)]:=by
 have hsz:s.data.toList.length = s.size:=Array.length_toList
 refine FnC.mk Tryz.func208 rfl ent208 (by simp [Tryz.ntmps208]) fun w G=>?_
 (refine evC_ok (cs:=[]) 80 _ _ ?_; simp only [go_sem,evC,ev2,con_f,con_args,con_rs,plainA,List.cons.injEq,SV.pd.injEq,ite_self])
 refine R.famU (fun (k:Nat) s=>St.lp [0,5,6,42,43,44,45,46,47,48] [(7,.pd (I k))] [] [] [] [] s) (fun (k:Nat)=>k ≤ s.size∧nameL true s.data.toList = nameL (k == 0) (s.data.toList.drop k)) (fun (k:Nat)=>s.size - k) (0) (⟨by omega,by simp⟩) (by (simp only [go_sem]); all_goals (and_intros <;> rfl)) ?_
 rintro k ⟨hk,hinv⟩
 (refine evC_ok (cs:=[]) 80 _ _ ?_; simp only [go_sem,evC,ev2,con_f,con_args,con_rs,plainA,List.cons.injEq,SV.pd.injEq,ite_self])
 refine ⟨fun h=>?_,fun h=>?_⟩
 ·have hlt:k < s.size:=by simpa using h
  have hltl:k < s.data.toList.length:=by omega
  rw [drop_cons hltl,nameL] at hinv
  have hget:s.data.toList.getD k 0 = s.data.toList[k]:=by rw [List.getD_eq_getElem?_getD,List.getElem?_eq_getElem hltl]; rfl
  have hc:=s.data.toList[k].toNat_lt
  generalize hcc:s.data.toList[k].toNat = c at hinv hc
  (refine evQC_ok [] 120 _ _ ?_; simp only [go_sem,evQ,rtC,ev2,con_f,con_args,con_rs,plainA,↓reduceIte,List.cons.injEq,SV.pd.injEq,PD.raw.injEq,Value.bool.injEq,Value.int.injEq,Tryz.results208,hget,hcc,wrapN (k:=k) (by omega)])
  refine ⟨by omega,?_⟩
  have yes:(alphaB c || !(k == 0) && laterB c) = true→nameL true s.data.toList = nameL (k + 1 == 0) (s.data.toList.drop (k + 1)):=fun e=>by
   rw [hinv,e]; simp
  have no:(alphaB c || !(k == 0) && laterB c) = false→false = nameS s:=fun e=>by
   rw [nameS,hinv,e]; simp
  clear hinv hget hcc
  repeat' (refine ite_in (fun _=>?_) (fun _=>?_))
  all_goals first
   | (refine R.famEnd (k + 1) ⟨by omega,yes ?_⟩ (by show _ < _; omega) (by (simp only [go_sem])); simp_all [alphaB,laterB]; try omega)
   | (refine no ?_; simp_all [alphaB,laterB]; try omega)
 ·have hge:¬ k < s.size:=by simpa using h
  have:s.data.toList.drop k = []:=List.drop_eq_nil_of_le (by omega)
  rw [this] at hinv
  have e:nameS s = (!decide (s.size = 0) && decide ((s.size:Int) ≤ 24)):=by
   unfold nameS; rw [hinv,nameL,Bool.true_and,← decide_not]; congr 1; simp only [decide_eq_decide]; omega
  (refine evQC_ok [] 120 _ _ ?_; simp only [go_sem,evQ,rtC,ev2,con_f,con_args,con_rs,plainA,↓reduceIte,List.cons.injEq,SV.pd.injEq,PD.raw.injEq,Value.bool.injEq,Value.int.injEq,Tryz.results208,toList_nil,ifB,e])
  cases decide (s.size = 0) <;> simp
end Go.Proofs.YtjbhhddfaohdnaaGreatDoor
