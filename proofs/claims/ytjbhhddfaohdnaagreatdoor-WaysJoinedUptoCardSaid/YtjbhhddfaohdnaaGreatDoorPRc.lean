/- A part of the proof: Rc. -/
import Derived.Test.YtjbhhddfaohdnaaGreatDoorPDrw
import Derived.Test.YtjbhhddfaohdnaaGreatDoorPDet
import Derived.Test.YtjbhhddfaohdnaaGreatDoorPCp
import Derived.Laws.CopyRow
set_option linter.all false
set_option linter.deprecated false
namespace Go.Proofs.YtjbhhddfaohdnaaGreatDoor
open Go Go.Abs Go.Proofs
set_option maxRecDepth 10000
set_option maxHeartbeats 4000000
theorem ent401:Ent Tryz.prog 401:=fun _ _=>by kernel_rfl
theorem ent403:Ent Tryz.prog 403:=fun _ _=>by kernel_rfl
def spec (c:UInt8):Bool:=c == 10 || c == 34 || c == 92
theorem u8_lt (c:UInt8):c.toNat<256:=c.toNat_lt
theorem repD_c (c:UInt8):repD.getD c.toNat (.tup [])=if spec c then .list 1 ((replB c).map fun x=>U8 x) else NIL:=by
 rw [repD_at (u8_lt c)]
 have h10:c.toNat=10↔c=10:=by rw [← UInt8.toNat_inj]; rfl
 have h34:c.toNat=34↔c=34:=by rw [← UInt8.toNat_inj]; rfl
 have h92:c.toNat=92↔c=92:=by rw [← UInt8.toNat_inj]; rfl
 unfold repC spec replB
 simp only [h10,h34,h92]
 by_cases c10:c=10
 ·subst c10; rfl
 ·by_cases c34:c=34
  ·subst c34; rfl
  ·by_cases c92:c=92
   ·subst c92; rfl
   ·simp [c10,c34,c92]
theorem replB_spec {c:UInt8} (h:spec c=true):∃ x,replB c=[92,x]:=by
 unfold spec at h; unfold replB
 split
 ·exact ⟨_,rfl⟩
 ·split
  ·exact ⟨_,rfl⟩
  ·split
   ·exact ⟨_,rfl⟩
   ·rename_i h1 h2 h3; simp [h1,h2,h3] at h
theorem replB_no {c:UInt8} (h:spec c=false):replB c=[c]:=by
 unfold spec at h; unfold replB
 simp only [Bool.or_eq_false_iff,beq_eq_false_iff_ne] at h
 simp [h.1.1,h.1.2,h.2]
theorem replB_len (c:UInt8):(replB c).length=1+(if spec c then 1 else 0):=by
 cases h:spec c with
 | true=>obtain ⟨x,hx⟩:=replB_spec h; rw [hx]; rfl
 | false=>rw [replB_no h]; rfl
theorem replL_len (l:List UInt8):(replL l).length=l.length+l.countP spec:=by
 induction l with
 | nil=>rfl
 | cons c l ih=>
  have:replL (c::l)=replB c++replL l:=rfl
  rw [this,List.length_append,ih,replB_len,List.countP_cons,List.length_cons]
  omega
theorem replL_snoc (l:List UInt8) (c:UInt8):replL (l++[c])=replL l++replB c:=by simp [replL]
theorem replL_none {l:List UInt8} (h:l.countP spec=0):replL l=l:=by
 induction l with
 | nil=>rfl
 | cons c l ih=>
  rw [List.countP_cons] at h
  have h1:spec c=false:=by cases hc:spec c with | false=>rfl | true=>rw [hc] at h; simp at h
  have:replL (c::l)=replB c++replL l:=rfl
  rw [this,replB_no h1,ih (by omega)]; rfl
theorem count_spec (l:List UInt8):l.countP spec=(TRl.map (Lib.countByte l)).sum:=by
 induction l with
 | nil=>rfl
 | cons c l ih=>
  simp only [TRl,List.map_cons,List.map_nil,List.sum_cons,List.sum_nil,Lib.countByte,List.count_cons,List.countP_cons] at ih ⊢
  have:(if spec c then 1 else 0)=(if c == 10 then 1 else 0)+((if c == 92 then 1 else 0)+(if c == 34 then 1 else 0)):=by
   unfold spec
   by_cases c10:c=10
   ·subst c10; rfl
   ·by_cases c34:c=34
    ·subst c34; rfl
    ·by_cases c92:c=92
     ·subst c92; rfl
     ·simp [c10,c34,c92]
  omega
theorem count_ok (s:ByteArray) (c:UInt8):FnW Tryz.prog 403 [.pd (S s),.pd (S (str [c]))] [I (Lib.countByte (bytes s) c:Nat)]:=by
 refine ⟨ent403,fun w G vals hG hs hv=>?_⟩
 have e0:vals.getD 0 undef = .string s:=RdV.raw_eq (w:=w) (G:=G) (hv 0 (by simp))
 have e1:vals.getD 1 undef = .string (str [c]):=RdV.raw_eq (w:=w) (G:=G) (hv 1 (by simp))
 have hvals:vals = #[.string s,.string ⟨#[c]⟩]:=by
  apply Array.ext
  ·simpa using hs
  ·intro i hi1 hi2
   have hsz:vals.size=2:=by simpa using hs
   match i,hi1 with
   | 0,_=>simpa [Array.getD,hsz] using e0
   | 1,_=>simpa [Array.getD,hsz] using e1
 rw [hvals]
 refine (Tryz.strings_Count_one s c w).mono ?_
 rintro e w' ⟨rfl,rfl⟩
 exact ⟨_,rfl,Rd.raw _ rfl,Go.RowKit.Below.refl _ _⟩
def cnK (s:ByteArray) (k:Nat):Nat:=((TRl.take k).map (Lib.countByte (bytes s))).sum
theorem cnK_succ (s:ByteArray) (k:Nat) (h:k<TRl.length):cnK s (k+1)=cnK s k+Lib.countByte (bytes s) TRl[k]:=by
 unfold cnK; rw [List.take_succ_eq_append_getElem h,List.map_append,List.sum_append]; simp
theorem cnK_three (s:ByteArray) (k:Nat) (h:TRl.length≤k):cnK s k=(bytes s).countP spec:=by
 unfold cnK; rw [List.take_of_length_le h,← count_spec]
theorem cnK_le (s:ByteArray) (k:Nat):cnK s k≤(bytes s).countP spec:=by
 rw [count_spec]
 conv=>rhs; rw [← List.take_append_drop k TRl,List.map_append,List.sum_append]
 unfold cnK; omega
theorem TRl_spec (k:Nat) (h:k<TRl.length):spec TRl[k]=true:=by
 match k,h with
 | 0,_=>rfl
 | 1,_=>rfl
 | 2,_=>rfl
abbrev u8s (l:List UInt8):List PD:=l.map fun c=>U8 c
def fill (N:Nat) (l:List UInt8):List PD:=u8s l++List.replicate (N - l.length) (U8 0)
theorem fill_len {N:Nat} {l:List UInt8} (h:l.length≤N):(fill N l).length=N:=by simp [fill]; omega
theorem fill_put {N:Nat} {l m:List UInt8} (h:l.length+m.length≤N):(fill N l).take l.length++u8s m++(fill N l).drop (l.length+m.length)=fill N (l++m):=by
 unfold fill
 have h1:(u8s l).length=l.length:=by simp
 rw [List.take_append_of_le_length (by omega),List.take_of_length_le (by omega),List.drop_append,h1]
 simp only [List.map_append,List.length_append,List.append_assoc]
 have e2:l.length+m.length - l.length=m.length:=by omega
 rw [List.drop_of_length_le (by omega),List.nil_append,e2,List.drop_replicate]
 have e3:N - l.length - m.length=N - (l.length+m.length):=by omega
 rw [e3]
theorem fill_set {N:Nat} {l:List UInt8} (c:UInt8) (h:l.length<N):(fill N l).set l.length (spl ((fill N l).getD l.length (.tup [])) 0 (.raw (.int .u8 (c.toNat:Int))))=fill N (l++[c]):=by
 have e1:(fill N l).getD l.length (.tup [])=U8 0:=by
  have h0:0<N - l.length:=by omega
  simp [fill,List.getD_eq_getElem?_getD,List.getElem?_append_right,List.getElem?_replicate,h0]
 rw [e1]
 have e2:spl (U8 0) 0 (.raw (.int .u8 (c.toNat:Int)))=U8 c:=rfl
 rw [e2]
 unfold fill
 have e3:N - l.length=(N - (l++[c]).length)+1:=by simp; omega
 rw [e3,List.replicate_succ,List.set_append_right _ _ (by simp)]
 simp
theorem _root_.Go.Abs.R.cut {C:Cx} {k:List KI} {s:St} {X:Code} (J:St→Prop) (h1:R C (.code X :: .loopEnd J::k) s) (h2:∀ s',J s'→R C k s'):R C (.code X::k) s:=by
 intro a w E g
 have:=h1 a w E g
 simp only [fin] at this ⊢
 refine wp_mono this ?_
 intro e a w hq
 cases e with
 | normal=>obtain ⟨s',E',hJ,g'⟩:=hq; exact h2 s' hJ a w E' g'
 | exit _=>exact hq
 | goto _=>exact hq
 | ret=>exact hq
 | panic _=>exact hq
 | outgrown=>exact hq
theorem _root_.Go.Abs.R.cut2 {C:Cx} {k:List KI} {s1 s2:St} {X1 X2:Code} {b c:Prop} (S:St) (h1:b→R C (.code X1 :: .loopEnd (Fam (fun _:Bool=>S) (fun _=>True) (fun b=>if b then 0 else 1) false)::k) s1) (h2:c→R C (.code X2 :: .loopEnd (Fam (fun _:Bool=>S) (fun _=>True) (fun b=>if b then 0 else 1) false)::k) s2)
  (h3:R C k S):(b→R C (.code X1::k) s1)∧(c→R C (.code X2::k) s2):=
 ⟨fun h=>R.cut _ (h1 h) (by rintro s' ⟨_,_,_,rfl⟩; exact h3),fun h=>R.cut _ (h2 h) (by rintro s' ⟨_,_,_,rfl⟩; exact h3)⟩
abbrev cntS (s:ByteArray):Nat:=(bytes s).countP spec
def st401 (s:ByteArray):St:=⟨122,[(0,.ref (.tup repD) 0),(1,.pd (S s)),(4,.pd (.raw (.string ⟨#[]⟩))),(5,.pd (I ((s.size+cntS s:Nat):Int))),(6,.pd (B (decide (0<cntS s))))],[],[],[],[]⟩
theorem wr64 {n:Nat} (h:n<9223372036854775807):IntKind.i64.wrap (n:Int)=(n:Int):=by
 unfold IntKind.wrap; simp [IntKind.signed,IntKind.bits]; omega
theorem replace_ok (q:ByteArray) (hs:q.size≤1000000000):FnW Tryz.prog 401 [.ref (.tup repD) 0,.pd (S q)] [S (str (replL (bytes q)))]:=by
 have hbl:(bytes q).length=q.size:=by cases q; rfl
 have hcl:cntS q≤q.size:=by rw [← hbl]; exact List.countP_le_length
 have hcl2:List.countP spec (bytes q)≤q.size:=hcl
 refine FnW.mk Tryz.func401 rfl ent401 (by simp [Tryz.ntmps401]) fun w G=>?_
 (refine evC8 ?_; simp only [go_sem,List.cons.injEq,SV.pd.injEq,repD_256,repD_len])
 refine R.cut2 (st401 q) (fun h=>?_) (fun h=>?_) ?_
 ·(refine evC8 ?_; simp only [go_sem,List.cons.injEq,SV.pd.injEq,repD_256,repD_len])
  refine R.famU (fun (k:Nat) s=>St.lp [0,1,4,10,11,12,13,14,15,30,31,55,56,57,58,59,60,61,62,63,64,65,66,67,68,69,70,71,72,73,74,75,76,77,78,79,80,81,82,83,84,85,86,87,88,89,90,91,92,93,94,95,96,97,98,99,100,101,102,103,104,105,106,107,108,109,110,111,112,113,114,115,116,117,118,119,120,121] [(32,.pd (I k)),(5,.pd (I ((q.size+cnK q k:Nat):Int))),(6,.pd (B (decide (0<cnK q k))))] [] [] [] [] s) (fun (k:Nat)=>k≤TRl.length) (fun (k:Nat)=>TRl.length - k) (0) (by omega) (by (simp only [go_sem]); all_goals (and_intros <;> rfl)) ?_
  rintro k hk
  (refine evC8 ?_; simp only [go_sem,List.cons.injEq,SV.pd.injEq,ite_self])
  refine ⟨fun h=>?_,fun h=>?_⟩
  ·have hlt:k<TRl.length:=by simpa using h
   have hck:=cnK_le q (k+1)
   have hcs:=cnK_succ q k hlt
   (refine evC8 ?_; simp only [go_sem,List.cons.injEq,SV.pd.injEq,getD_map,hlt])
   (repeat (refine And.intro (by omega) ?_))
   refine R.callW (by rfl) (count_ok q TRl[k]) rfl rfl (.cons (.pd _) (.cons (.pd _) (.nil))) (by simp [plain,PD.plain]) (by simp only [go_sem]) ?_
   (refine evC8 ?_; simp only [go_sem,List.cons.injEq,SV.pd.injEq,ite_self])
   refine ⟨fun h0=>?_,fun h0=>?_⟩
   ·obtain ⟨x,hx⟩:=replB_spec (TRl_spec k hlt)
    have htab:repD.getD (TRl[k]).toNat (.tup []) = .list 1 [U8 92,U8 x]:=by rw [repD_c,if_pos (TRl_spec k hlt),hx]; rfl
    have hpos:0<Lib.countByte (bytes q) TRl[k]:=by
     rcases Nat.eq_zero_or_pos (Lib.countByte (bytes q) TRl[k]) with e | e
     ·rw [e] at h0; simp at h0
     ·exact e
    (refine evC8 ?_; simp only [go_sem,List.cons.injEq,SV.pd.injEq,ite_self])
    refine R.drawE2 13 80 mixed (by kernel_rfl) ?_; simp only [go_sem,sl344,ar344,htab,repD_len,List.getD_cons_zero,Int.toNat_zero]
    have hc8:=u8_lt TRl[k]
    refine ⟨⟨by omega,by first | decide | (rw [szE1]; decide)⟩,by omega,by omega,?_⟩
    have hw2:IntKind.i64.wrap (((q.size+cnK q k:Nat):Int)+IntKind.i64.wrap ((Lib.countByte (bytes q) TRl[k]:Nat) * IntKind.i64.wrap (((2:Nat):Int) - 1)))=((q.size+cnK q (k+1):Nat):Int):=by
     have e1:IntKind.i64.wrap (((2:Nat):Int) - 1)=((1:Nat):Int):=by decide
     rw [e1,← Int.natCast_mul,Nat.mul_one,wr64 (by omega),← Int.natCast_add,wr64 (by omega),hcs,Nat.add_assoc]
    have h6:decide (0<cnK q (k+1))=true:=by simp; omega
    (refine evC8 ?_; simp only [go_sem,List.cons.injEq,SV.pd.injEq,hw2,wrapN (k:=k) (by simp [TRl] at hlt; omega)])
    refine R.famEnd (k+1) (by omega) (by show _<_; omega) (by (simp only [go_sem,h6]); all_goals (and_intros <;> rfl))
   ·have hz:Lib.countByte (bytes q) TRl[k]=0:=by
     rcases Nat.eq_zero_or_pos (Lib.countByte (bytes q) TRl[k]) with e | e
     ·exact e
     ·exfalso; simp at h0; omega
    rw [hz,Nat.add_zero] at hcs
    (refine evC8 ?_; simp only [go_sem,List.cons.injEq,SV.pd.injEq,wrapN (k:=k) (by simp [TRl] at hlt; omega)])
    refine R.famEnd (k+1) (by omega) (by show _<_; omega) (by (simp only [go_sem,hcs]); all_goals (and_intros <;> rfl))
  ·have hk3:=cnK_three q k (by simp at h; omega)
   (refine evC8 ?_; simp only [go_sem,List.cons.injEq,SV.pd.injEq,ite_self])
   refine R.famEnd true trivial (by decide) (by (simp only [go_sem,hk3,st401]); all_goals (and_intros <;> rfl))
 ·(refine evC8 ?_; simp only [go_sem,List.cons.injEq,SV.pd.injEq,repD_256,repD_len])
  refine R.famU (fun (k:Nat) s=>St.lp [0,1,4,12,13,14,15,81,82,83,84,85,86,87,88,89,90,91,92,93,94,95,96,97,98,99,100,101,102,103,104,105,106,107,108,109,110,111,112,113,114,115,116,117,118,119,120,121] [(10,.pd (I k)),(5,.pd (I ((q.size+((bytes q).take k).countP spec:Nat):Int))),(6,.pd (B (decide (0<((bytes q).take k).countP spec))))] [] [] [] [] s) (fun (k:Nat)=>k≤q.size) (fun (k:Nat)=>q.size - k) (0) (by omega) (by (simp only [go_sem]); all_goals (and_intros <;> rfl)) ?_
  rintro k hk
  (refine evC8 ?_; simp only [go_sem,List.cons.injEq,SV.pd.injEq,ite_self])
  refine ⟨fun h=>?_,fun h=>?_⟩
  ·have hlt:k<q.size:=by simpa using h
   have hltb:k<(bytes q).length:=by omega
   have hgk:q.data.toList.getD k 0=(bytes q)[k]:=by
    have:k<q.data.size:=hltb
    simp only [List.getD_eq_getElem?_getD,bytes,Array.getElem?_toList,Array.getElem?_eq_getElem this,Option.getD_some,Array.getElem_toList]
   have htk:(bytes q).take (k+1)=(bytes q).take k++[(bytes q)[k]]:=List.take_succ_eq_append_getElem hltb
   generalize (bytes q)[k]=c at hgk htk
   have hc8:=u8_lt c
   cases hsp:spec c with
   | true=>
    obtain ⟨x,hx⟩:=replB_spec hsp
    have htab:repD.getD c.toNat (.tup []) = .list 1 [U8 92,U8 x]:=by rw [repD_c,hsp,if_pos rfl,hx]; rfl
    (refine evC8 ?_; simp only [go_sem,List.cons.injEq,SV.pd.injEq,sl344,ar344,hgk,htab,repD_len])
    refine ⟨by omega,by omega,by omega,?_⟩
    refine R.neNil rfl rfl (dstP_ok (by (simp only [go_sem]))) rfl rfl sl311 ?_
    have hsn:((bytes q).take (k+1)).countP spec=((bytes q).take k).countP spec+1:=by rw [htk,List.countP_append]; simp [hsp]
    have hle:((bytes q).take (k+1)).countP spec≤q.size:=by
     rw [← hbl]; exact Nat.le_trans List.countP_le_length (by simp; omega)
    have hw2:IntKind.i64.wrap (((q.size+((bytes q).take k).countP spec:Nat):Int)+IntKind.i64.wrap (((2:Nat):Int) - 1))=((q.size+((bytes q).take (k+1)).countP spec:Nat):Int):=by
     have e1:IntKind.i64.wrap (((2:Nat):Int) - 1)=((1:Nat):Int):=by decide
     rw [e1,← Int.natCast_add,wr64 (by omega),hsn,Nat.add_assoc]
    have h6:decide (0<((bytes q).take (k+1)).countP spec)=true:=decide_eq_true (by omega)
    (refine evC8 ?_; simp only [go_sem,List.cons.injEq,SV.pd.injEq,ite_self])
    (refine evC8 ?_; simp only [go_sem,List.cons.injEq,SV.pd.injEq,sl344,ar344,hgk,htab,repD_len,hw2,wrapN (k:=k) (by omega)])
    refine ⟨by omega,by omega,?_⟩
    refine R.famEnd (k+1) (by omega) (by show _<_; omega) (by (simp only [go_sem,h6,hw2]); all_goals (and_intros <;> rfl))
   | false=>
    have htab:repD.getD c.toNat (.tup [])=NIL0:=by rw [repD_c,hsp]; rfl
    (refine evC8 ?_; simp only [go_sem,List.cons.injEq,SV.pd.injEq,sl344,ar344,hgk,htab,repD_len])
    refine ⟨by omega,by omega,by omega,?_⟩
    refine R.nilNe rfl rfl (dstP_ok (by (simp only [go_sem]))) rfl rfl sl311 ?_
    have hsn:((bytes q).take (k+1)).countP spec=((bytes q).take k).countP spec:=by rw [htk,List.countP_append]; simp [hsp]
    (refine evC8 ?_; simp only [go_sem,List.cons.injEq,SV.pd.injEq,ite_self])
    (refine evC8 ?_; simp only [go_sem,List.cons.injEq,SV.pd.injEq,wrapN (k:=k) (by omega)])
    refine R.famEnd (k+1) (by omega) (by show _<_; omega) (by (simp only [go_sem,hsn]); all_goals (and_intros <;> rfl))
  ·have hke:(bytes q).take k=bytes q:=List.take_of_length_le (by simp at h; omega)
   (refine evC8 ?_; simp only [go_sem,List.cons.injEq,SV.pd.injEq,ite_self])
   refine R.famEnd true trivial (by decide) (by (simp only [go_sem,hke,st401]); all_goals (and_intros <;> rfl))
 ·unfold st401
  (refine evC8 ?_; simp only [go_sem,List.cons.injEq,SV.pd.injEq,repD_256,repD_len])
  refine ⟨fun h=>?_,fun h=>?_⟩
  ·have h0:(bytes q).countP spec=0:=by simp at h; simpa using h
   (refine evC8 ?_; simp only [go_sem,List.cons.injEq,SV.pd.injEq,ite_self])
   refine R.retW (vc:=True) ?_ trivial
   rw [replL_none h0]; rfl
  ·have hpos:0<cntS q:=by simpa using h
   (refine evC8 ?_; simp only [go_sem,List.cons.injEq,SV.pd.injEq,ite_self])
   have hi5:(Tryz.prog.info? 5).map (fun i=>(i.zero,i.size,i.bytes))=some (some (.int .u8 0),1,1):=by kernel_rfl
   have hN:q.size+cntS q=(replL (bytes q)).length:=by rw [replL_len,hbl]
   refine R.makeRow (d:=85) 12 rfl rfl rfl rfl (by (simp only [go_sem])) rfl rfl sl311 hi5 rfl rfl (by omega) (by unfold maxLen; omega) ?_
   (refine evC8 ?_; simp only [go_sem,List.cons.injEq,SV.pd.injEq,ite_self])
   have hf0:List.replicate (q.size+cntS q) (PD.raw (.int .u8 0))=fill (q.size+cntS q) (replL ((bytes q).take 0)):=by simp [fill,replL]
   rw [hf0]
   refine R.famU (fun (k:Nat) s=>St.lp [0,1,4,12,120,121] [(14,.pd (I k)),(13,.pd (I ((replL ((bytes q).take k)).length:Int))),(12,.own 12)] [] [] [] [(12,⟨5,1,fill (q.size+cntS q) (replL ((bytes q).take k))⟩)] s) (fun (k:Nat)=>k≤q.size) (fun (k:Nat)=>q.size - k) (0) (by omega) (by (simp only [go_sem]); all_goals (and_intros <;> rfl)) ?_
   rintro k hk
   (refine evC8 ?_; simp only [go_sem,List.cons.injEq,SV.pd.injEq,ite_self])
   refine ⟨fun h=>?_,fun h=>?_⟩
   ·have hlt:k<q.size:=by simpa using h
    have hltb:k<(bytes q).length:=by omega
    have hgk:q.data.toList.getD k 0=(bytes q)[k]:=by
     have:k<q.data.size:=hltb
     simp only [List.getD_eq_getElem?_getD,bytes,Array.getElem?_toList,Array.getElem?_eq_getElem this,Option.getD_some,Array.getElem_toList]
    have htk:(bytes q).take (k+1)=(bytes q).take k++[(bytes q)[k]]:=List.take_succ_eq_append_getElem hltb
    have hsnl:replL ((bytes q).take (k+1))=replL ((bytes q).take k)++replB (bytes q)[k]:=by rw [htk,replL_snoc]
    have htot:(replL ((bytes q).take (k+1))).length≤q.size+cntS q:=by
     rw [hN]
     conv=>rhs; rw [← List.take_append_drop (k+1) (bytes q)]
     simp only [replL,List.flatMap_append,List.length_append]; omega
    generalize (bytes q)[k]=c at hgk htk hsnl
    have hc8:=u8_lt c
    cases hsp:spec c with
    | true=>
     obtain ⟨x,hx⟩:=replB_spec hsp
     have htab:repD.getD c.toNat (.tup []) = .list 1 [U8 92,U8 x]:=by rw [repD_c,hsp,if_pos rfl,hx]; rfl
     (refine evC8 ?_; simp only [go_sem,List.cons.injEq,SV.pd.injEq,sl344,ar344,hgk,htab,repD_len])
     refine ⟨by omega,by omega,by omega,?_⟩
     refine R.neNil rfl rfl (dstP_ok (by (simp only [go_sem]))) rfl rfl sl311 ?_
     have hlen2:(replL ((bytes q).take (k+1))).length=(replL ((bytes q).take k)).length+2:=by rw [hsnl,hx]; simp
     rw [hx] at hsnl
     have hfp:=fill_put (N:=q.size+cntS q) (l:=replL ((bytes q).take k)) (m:=[92,x]) (by show _+2≤_; omega)
     have hfp:(fill (q.size+cntS q) (replL ((bytes q).take k))).take (replL ((bytes q).take k)).length++[U8 92,U8 x]++(fill (q.size+cntS q) (replL ((bytes q).take k))).drop ((replL ((bytes q).take k)).length+2)=fill (q.size+cntS q) (replL ((bytes q).take k)++[92,x]):=hfp
     (refine evC8 ?_; simp only [go_sem,List.cons.injEq,SV.pd.injEq,ite_self])
     refine R.cp28 (c:=c) (y1:=92) (y2:=x) (j:=(replL ((bytes q).take k)).length) (ds:=fill (q.size+cntS q) (replL ((bytes q).take k))) rfl rfl (by kernel_rfl) (by kernel_rfl) (by kernel_rfl) rfl rfl rfl rfl rfl rfl htab (by rw [fill_len (by omega)]; omega) ?_
     rw [hfp]
     (simp only [go_sem,keys28,List.foldl_cons,List.foldl_nil])
     (refine evC8 ?_; simp only [go_sem,List.cons.injEq,SV.pd.injEq,wrapN (k:=k) (by omega)])
     refine R.famEnd (k+1) (by omega) (by show _<_; omega) (by (simp only [go_sem,hsnl,List.length_append]); all_goals (and_intros <;> rfl))
    | false=>
     have htab:repD.getD c.toNat (.tup [])=NIL0:=by rw [repD_c,hsp]; rfl
     (refine evC8 ?_; simp only [go_sem,List.cons.injEq,SV.pd.injEq,sl344,ar344,hgk,htab,repD_len])
     refine ⟨by omega,by omega,by omega,?_⟩
     refine R.nilNe rfl rfl (dstP_ok (by (simp only [go_sem]))) rfl rfl sl311 ?_
     have hone:replB c=[c]:=replB_no hsp
     rw [hone] at hsnl
     have hlen1:(replL ((bytes q).take (k+1))).length=(replL ((bytes q).take k)).length+1:=by rw [hsnl]; simp
     (refine evC8 ?_; simp only [go_sem,List.cons.injEq,SV.pd.injEq,ite_self])
     (refine evC8 ?_; simp only [go_sem,List.cons.injEq,SV.pd.injEq,fill_len (show (replL ((bytes q).take k)).length≤q.size+cntS q by omega)])
     have hfs:=fill_set (N:=q.size+cntS q) (l:=replL ((bytes q).take k)) c (by omega)
     refine ⟨by omega,by omega,?_⟩
     refine R.famEnd (k+1) (by omega) (by show _<_; omega) (by (simp only [go_sem,hfs,hsnl,List.length_append,wrapN (k:=k) (by omega),wrapN (k:=(replL ((bytes q).take k)).length) (by omega)]); all_goals (and_intros <;> rfl))
   ·have hke:(bytes q).take k=bytes q:=List.take_of_length_le (by simp at h; omega)
    have hful:fill (q.size+cntS q) (replL (bytes q))=(replL (bytes q)).map fun c=>.raw (.int .u8 (c.toNat:Int)):=by unfold fill; rw [hN]; simp
    rw [hke]
    (refine evC8 ?_; simp only [go_sem,List.cons.injEq,SV.pd.injEq,ite_self])
    refine R.toStr (bs:=replL (bytes q)) rfl rfl (dstP_ok (by (simp only [go_sem]))) rfl rfl rfl hful sl311 in5 st9 (fun e=>by have h0:=congrArg List.length e; rw [← hN] at h0; simp only [List.length_nil] at h0; omega) ?_
    (refine evC8 ?_; simp only [go_sem,List.cons.injEq,SV.pd.injEq,ite_self])
    refine R.retW (vc:=True) ?_ trivial
    rfl
end Go.Proofs.YtjbhhddfaohdnaaGreatDoor
