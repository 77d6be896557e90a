/- A part of the proof: GrowL, X1, X2, Ad, K1, K2, K3, K4, K5. -/
import Derived.Shelf.Spec.SlicesGrow
import Derived.Ground.Names8Prog
import Derived.Test.YtjbhhddfaohdnaaGreatDoorProg
import Derived.Test.YtjbhhddfaohdnaaGreatDoorPSm
import Derived.Test.YtjbhhddfaohdnaaGreatDoorPDrw
import Derived.Test.YtjbhhddfaohdnaaGreatDoorPNm
set_option linter.all false
set_option linter.deprecated false
section
namespace Go.Proofs
open Go.Shelf
def Tryz.growW_ren:Go.Shelf.Ren:=⟨fun | 4=>315 | n=>n,fun | 22=>32 | 25=>53 | 3=>3 | 4=>4 | 9=>9 | 20=>20 | 0=>0 | n=>n,fun | n=>n⟩
theorem Tryz.growW:Go.Proofs.Lays8.n4 Tryz.prog Tryz.growW_ren:={
 mixed:=by kernel_rfl
 f4:=⟨Tryz.f315.name,by decide,Tryz.func315.trans (congrArg some (by kernel_rfl))⟩
 t0:=Tryz.underlying0
 a0:=Tryz.isAgg0
 z0:=Tryz.sizeOf0
 v0:=Tryz.zeroValue0
 t3:=Tryz.underlying3
 a3:=Tryz.isAgg3
 z3:=Tryz.sizeOf3
 v3:=Tryz.zeroValue3
 t4:=Tryz.underlying4
 a4:=Tryz.isAgg4
 z4:=Tryz.sizeOf4
 v4:=Tryz.zeroValue4
 t9:=Tryz.underlying9
 a9:=Tryz.isAgg9
 z9:=Tryz.sizeOf9
 v9:=Tryz.zeroValue9
 t20:=Tryz.underlying20
 a20:=Tryz.isAgg20
 z20:=Tryz.sizeOf20
 v20:=Tryz.zeroValue20
 t22:=Tryz.underlying32
 a22:=Tryz.isAgg32
 z22:=Tryz.sizeOf32
 v22:=Tryz.zeroValue32 }
def Tryz.growI_ren:Go.Shelf.Ren:=⟨fun | 4=>316 | n=>n,fun | 22=>27 | 25=>3 | 3=>3 | 4=>4 | 9=>9 | 20=>20 | 0=>0 | n=>n,fun | n=>n⟩
theorem Tryz.growI:Go.Proofs.Lays8.n4 Tryz.prog Tryz.growI_ren:={
 mixed:=by kernel_rfl
 f4:=⟨Tryz.f316.name,by decide,Tryz.func316.trans (congrArg some (by kernel_rfl))⟩
 t0:=Tryz.underlying0
 a0:=Tryz.isAgg0
 z0:=Tryz.sizeOf0
 v0:=Tryz.zeroValue0
 t3:=Tryz.underlying3
 a3:=Tryz.isAgg3
 z3:=Tryz.sizeOf3
 v3:=Tryz.zeroValue3
 t4:=Tryz.underlying4
 a4:=Tryz.isAgg4
 z4:=Tryz.sizeOf4
 v4:=Tryz.zeroValue4
 t9:=Tryz.underlying9
 a9:=Tryz.isAgg9
 z9:=Tryz.sizeOf9
 v9:=Tryz.zeroValue9
 t20:=Tryz.underlying20
 a20:=Tryz.isAgg20
 z20:=Tryz.sizeOf20
 v20:=Tryz.zeroValue20
 t22:=Tryz.underlying27
 a22:=Tryz.isAgg27
 z22:=Tryz.sizeOf27
 v22:=Tryz.zeroValue27 }
end Go.Proofs
end
section
namespace Go.Proofs.YtjbhhddfaohdnaaGreatDoor
open Go Go.Abs Go.Proofs
set_option maxRecDepth 10000
set_option maxHeartbeats 4000000
theorem ent315:Ent Tryz.prog 315:=fun _ _=>by kernel_rfl
theorem ent316:Ent Tryz.prog 316:=fun _ _=>by kernel_rfl
theorem ent277:Ent Tryz.prog 277:=fun _ _=>by kernel_rfl
theorem ent278:Ent Tryz.prog 278:=fun _ _=>by kernel_rfl
theorem ent230:Ent Tryz.prog 230:=fun _ _=>by kernel_rfl
theorem growNil {ρ:Go.Shelf.Ren} (L:Lays8.n4 Tryz.prog ρ) {f e sz by':Nat} {z:Value} (hf:ρ.f 4=f) (he:ρ.t 25=e) (hent:Ent Tryz.prog f) (hi:(Tryz.prog.info? e).map (fun i=>(i.zero,i.size,i.bytes))=some (some z,sz,by')) (hzs:z.cells.size=sz) (h0:0<sz) (n:Nat) (hn:n * by'≤140737488355328) (hn2:n≤1000000000000):
  FnM Tryz.prog f [.pd NIL,.pd (I (n:Int))] [] [] (fun res M'=>res = .own ⟨e,sz,[]⟩∧M'=[]):=by
 refine ⟨hent,fun w G vals hG hs hv _=>?_⟩
 have e0:vals.getD 0 undef = .slice none 0 0:=RdV.raw_eq (w:=w) (G:=G) (hv 0 (by simp))
 have e1:vals.getD 1 undef = .int .i64 (n:Int):=RdV.raw_eq (w:=w) (G:=G) (hv 1 (by simp))
 have hvals:vals = #[.slice none 0 0,.int .i64 (n:Int)]:=by
  apply Array.ext
  ·simpa using hs
  ·intro i hi1 hi2
   have hsz:vals.size=2:=by simpa using hs
   match i,hi1 with
   | 0,_=>simpa [Array.getD,hsz] using e0
   | 1,_=>simpa [Array.getD,hsz] using e1
 rw [hvals]
 subst hf he
 obtain ⟨i0,hi1,hz,hsz,hby⟩:=info_parts hi
 by_cases h:n=0
 ·subst h
  refine (Any8.slices_Grow_room L none 0 0 0 w (by omega) (by omega) (by omega) (by omega)).mono ?_
  rintro e w' ⟨rfl,rfl⟩
  exact ⟨.own ⟨_,sz,[]⟩,[],G,⟨rfl,rfl⟩,fun _ _ h=>h,fun _ _ h=>.inl h,hG.lt,Kept.refl _ _ _,⟨_,rfl,.inl ⟨rfl,rfl⟩⟩,fun r m h=>by simp [lk] at h,fun r m h=>by simp [lk] at h⟩
 ·refine (Any8.slices_Grow_grow L i0 z hi1 hz (by omega) none 0 0 n [] w (by omega) (by omega) (by rw [hby]; simpa using hn) (by omega) (by simp) (by simp) (by simp)).mono ?_
  rintro e w' ⟨rfl,rfl⟩
  have hge:=grownCap_ge w (0+n) 0 (ρ.t 25)
  have hle:=grownCap_le_maxLen w (0+n) 0 (ρ.t 25) (by simp [maxLen]; omega)
  refine ⟨.own ⟨_,sz,[]⟩,[],G,⟨rfl,rfl⟩,fun _ _ h=>h,fun _ _ h=>.inl h,fun b o h=>by have:=hG.lt b o h; simp; omega,?_,⟨_,rfl,.inr ⟨w.heap.size,_,_,rfl,Nat.le_refl _,fun o ho=>by have:=hG.lt _ _ ho; omega,heap_alloc_new w.drew _,?_,by simp,hle,fun k hk=>by simp at hk,fun k j hk=>by simp at hk⟩⟩,fun r m h=>by simp [lk] at h,fun r m h=>by simp [lk] at h⟩
  ·exact Kept.of_belowD ((below_drew w).trans (below_alloc w.drew _)).toBelow (fun h=>by cases h)
  ·simp only [Array.size_append,List.size_toArray,List.length_nil,size_zeroCells,hzs]
   rw [Nat.zero_add,← Nat.add_mul]; congr 1; omega
theorem infoW:(Tryz.prog.info? 53).map (fun i=>(i.zero,i.size,i.bytes))=some (some (.agg #[.slice none 0 0,.slice none 0 0]),2,48):=by kernel_rfl
theorem infoI:(Tryz.prog.info? 3).map (fun i=>(i.zero,i.size,i.bytes))=some (some (.int .i64 0),1,8):=by kernel_rfl
theorem growW_ok (n:Nat) (hn:n≤1000000000000):FnM Tryz.prog 315 [.pd NIL,.pd (I (n:Int))] [] [] (fun res M'=>res = .own ⟨53,2,[]⟩∧M'=[]):=
 growNil Tryz.growW rfl rfl ent315 infoW rfl (by decide) n (by omega) (by omega)
theorem growI_ok (n:Nat) (hn:n≤1000000000000):FnM Tryz.prog 316 [.pd NIL,.pd (I (n:Int))] [] [] (fun res M'=>res = .own ⟨3,1,[]⟩∧M'=[]):=
 growNil Tryz.growI rfl rfl ent316 infoI rfl (by decide) n (by omega) (by omega)
theorem flat_len {α:Type} (ls:List (List α)) (k:Nat):((ls.take k).flatten).length≤ls.flatten.length:=by
 rw [← List.take_append_drop k ls,List.flatten_append,List.length_append]; simp
theorem concatI_ok (ls:List (List Int)) (hl:ls.length≤1000000000) (hb:ls.flatten.length≤1000000000000):FnW Tryz.prog 278 [.pd (.list 1 (ls.map ints))] [ints ls.flatten]:=by
 refine FnW.mk Tryz.func278 rfl ent278 (by simp [Tryz.ntmps278]) fun w G=>?_
 (refine ev8 ?_; simp only [go_sem])
 refine R.famU (fun (k:Nat) s=>St.lp [0,2,6,8,9,10,23,24,25,26,27,28,29,30,31,32,33,34,35] [(11,.pd (I k)),(3,.pd (I (((ls.take k).flatten).length:Nat)))] [] [] [] [] s) (fun (k:Nat)=>k≤ls.length) (fun (k:Nat)=>ls.length - k) (0) (by omega) (by (simp only [go_sem]); all_goals (and_intros <;> rfl)) ?_
 rintro k hk
 (refine evC8 ?_; simp only [go_sem,List.cons.injEq,SV.pd.injEq,ite_self])
 refine ⟨fun h=>?_,fun h=>?_⟩
 ·have hlt:k<ls.length:=by simpa using h
  have hfl:=flat_len ls (k+1)
  have hsn:((ls.take (k+1)).flatten).length=((ls.take k).flatten).length+ls[k].length:=by
   rw [List.take_succ_eq_append_getElem hlt,List.flatten_append,List.length_append]; simp
  have hw:IntKind.i64.wrap (((((ls.take k).flatten).length:Nat):Int)+(ls[k].length:Int))=((((ls.take (k+1)).flatten).length:Nat):Int):=by rw [wrap64 (by omega) (by omega)]; omega
  have hneg:decide (((((ls.take (k+1)).flatten).length:Nat):Int)<0)=false:=by apply decide_eq_false; omega
  (refine evL8 ?_; simp only [go_sem,↓reduceIte,getD_map,hlt,hw,hneg,wrapN (k:=k) (by omega)])
  (repeat (refine And.intro (by omega) ?_))
  refine R.famEnd (k+1) (by omega) (by show _<_; omega) (by (simp only [go_sem]); all_goals (and_intros <;> rfl))
 have hge:¬ k<ls.length:=by simpa using h
 have hke:ls.take k=ls:=List.take_of_length_le (by omega)
 (refine ev8 ?_; simp only [go_sem,hke])
 refine R.callM (by rfl) 6 (by rfl) rfl rfl (dstP_ok (by (simp only [go_sem]))) (.cons (.pd _) (.cons (.pd _) .nil)) (growI_ok ls.flatten.length (by omega)) (fun r m h=>by simp [lk] at h) (fun r h=>by simp at h) ?_
 rintro res M' ⟨rfl,rfl⟩ hh; clear hh
 simp only [Behind]
 (refine ev8 ?_; simp only [go_sem])
 clear hge hke h hk
 refine R.famU (fun (k:Nat) s=>St.lp [2,25,26,35] [(27,.pd (I k)),(6,.own 6)] [] [] [] [(6,⟨3,1,((ls.take k).flatten).map I⟩)] s) (fun (k:Nat)=>k≤ls.length) (fun (k:Nat)=>ls.length - k) (0) (by omega) (by (simp only [go_sem]); all_goals (and_intros <;> rfl)) ?_
 rintro k hk
 (refine evC8 ?_; simp only [go_sem,List.cons.injEq,SV.pd.injEq,ite_self])
 refine ⟨fun h=>?_,fun h=>?_⟩
 ·have hlt:k<ls.length:=by simpa using h
  have hfl:=flat_len ls (k+1)
  have hsn:(ls.take (k+1)).flatten=(ls.take k).flatten++ls[k]:=by
   rw [List.take_succ_eq_append_getElem hlt,List.flatten_append]; simp
  rw [hsn,List.length_append] at hfl
  (refine evC8 ?_; simp only [go_sem,List.cons.injEq,SV.pd.injEq,getD_map,hlt])
  (repeat (refine And.intro (by omega) ?_))
  refine R.append (r:=⟨3,1,((ls.take k).flatten).map I⟩) (es:=ls[k].map I) rfl rfl (dstP_ok (by (simp only [go_sem]))) rfl rfl rfl rfl sl27 rfl sz3 (by simp) (congrArg (Option.map List.length) ze3) rfl (fun i hi=>by simp only [List.length_map] at hi; simp only [getD_map,hi]; rfl) (by show _ * byT Tryz.prog 3≤_; rw [by3]; simp only [List.length_map]; omega) (by simp only [maxLen,List.length_map]; omega) ?_
  (refine ev8 ?_; simp only [go_sem,wrapN (k:=k) (by omega)])
  refine R.famEnd (k+1) (by omega) (by show _<_; omega) (by (simp only [go_sem,hsn,List.map_append]); all_goals (and_intros <;> rfl))
 have hge:¬ k<ls.length:=by simpa using h
 have hke:ls.take k=ls:=List.take_of_length_le (by omega)
 (refine ev8 ?_; simp only [go_sem,hke])
 refine R.frz 6 rfl rfl ?_
 (simp only [go_sem])
 refine R.retW (vc:=True) ?_ trivial
 rfl
theorem concatW_ok (ls:List (List W)) (hl:ls.length≤1000000000) (hb:ls.flatten.length≤1000000000000):FnW Tryz.prog 277 [.pd (.list 1 (ls.map ways))] [ways ls.flatten]:=by
 refine FnW.mk Tryz.func277 rfl ent277 (by simp [Tryz.ntmps277]) fun w G=>?_
 (refine ev8 ?_; simp only [go_sem])
 refine R.famU (fun (k:Nat) s=>St.lp [0,2,6,8,9,10,23,24,25,26,27,28,29,30,31,32,33,34,35] [(11,.pd (I k)),(3,.pd (I (((ls.take k).flatten).length:Nat)))] [] [] [] [] s) (fun (k:Nat)=>k≤ls.length) (fun (k:Nat)=>ls.length - k) (0) (by omega) (by (simp only [go_sem]); all_goals (and_intros <;> rfl)) ?_
 rintro k hk
 (refine evC8 ?_; simp only [go_sem,List.cons.injEq,SV.pd.injEq,ite_self])
 refine ⟨fun h=>?_,fun h=>?_⟩
 ·have hlt:k<ls.length:=by simpa using h
  have hfl:=flat_len ls (k+1)
  have hsn:((ls.take (k+1)).flatten).length=((ls.take k).flatten).length+ls[k].length:=by
   rw [List.take_succ_eq_append_getElem hlt,List.flatten_append,List.length_append]; simp
  have hw:IntKind.i64.wrap (((((ls.take k).flatten).length:Nat):Int)+(ls[k].length:Int))=((((ls.take (k+1)).flatten).length:Nat):Int):=by rw [wrap64 (by omega) (by omega)]; omega
  have hneg:decide (((((ls.take (k+1)).flatten).length:Nat):Int)<0)=false:=by apply decide_eq_false; omega
  (refine evL8 ?_; simp only [go_sem,↓reduceIte,getD_map,hlt,hw,hneg,wrapN (k:=k) (by omega)])
  (repeat (refine And.intro (by omega) ?_))
  refine R.famEnd (k+1) (by omega) (by show _<_; omega) (by (simp only [go_sem]); all_goals (and_intros <;> rfl))
 have hge:¬ k<ls.length:=by simpa using h
 have hke:ls.take k=ls:=List.take_of_length_le (by omega)
 (refine ev8 ?_; simp only [go_sem,hke])
 refine R.callM (by rfl) 6 (by rfl) rfl rfl (dstP_ok (by (simp only [go_sem]))) (.cons (.pd _) (.cons (.pd _) .nil)) (growW_ok ls.flatten.length (by omega)) (fun r m h=>by simp [lk] at h) (fun r h=>by simp at h) ?_
 rintro res M' ⟨rfl,rfl⟩ hh; clear hh
 simp only [Behind]
 (refine ev8 ?_; simp only [go_sem])
 clear hge hke h hk
 refine R.famU (fun (k:Nat) s=>St.lp [2,25,26,35] [(27,.pd (I k)),(6,.own 6)] [] [] [] [(6,⟨53,2,((ls.take k).flatten).map way⟩)] s) (fun (k:Nat)=>k≤ls.length) (fun (k:Nat)=>ls.length - k) (0) (by omega) (by (simp only [go_sem]); all_goals (and_intros <;> rfl)) ?_
 rintro k hk
 (refine evC8 ?_; simp only [go_sem,List.cons.injEq,SV.pd.injEq,ite_self])
 refine ⟨fun h=>?_,fun h=>?_⟩
 ·have hlt:k<ls.length:=by simpa using h
  have hfl:=flat_len ls (k+1)
  have hsn:(ls.take (k+1)).flatten=(ls.take k).flatten++ls[k]:=by
   rw [List.take_succ_eq_append_getElem hlt,List.flatten_append]; simp
  rw [hsn,List.length_append] at hfl
  (refine evC8 ?_; simp only [go_sem,List.cons.injEq,SV.pd.injEq,getD_map,hlt])
  (repeat (refine And.intro (by omega) ?_))
  refine R.append (r:=⟨53,2,((ls.take k).flatten).map way⟩) (es:=ls[k].map way) rfl rfl (dstP_ok (by (simp only [go_sem]))) rfl rfl rfl rfl sl32 rfl sz53 (by simp) (congrArg (Option.map List.length) ze53) rfl (fun i hi=>by simp only [List.length_map] at hi; simp only [getD_map,hi]; rfl) (by show _ * byT Tryz.prog 53≤_; rw [by53]; simp only [List.length_map]; omega) (by simp only [maxLen,List.length_map]; omega) ?_
  (refine ev8 ?_; simp only [go_sem,wrapN (k:=k) (by omega)])
  refine R.famEnd (k+1) (by omega) (by show _<_; omega) (by (simp only [go_sem,hsn,List.map_append]); all_goals (and_intros <;> rfl))
 have hge:¬ k<ls.length:=by simpa using h
 have hke:ls.take k=ls:=List.take_of_length_le (by omega)
 (refine ev8 ?_; simp only [go_sem,hke])
 refine R.frz 6 rfl rfl ?_
 (simp only [go_sem])
 refine R.retW (vc:=True) ?_ trivial
 rfl
end Go.Proofs.YtjbhhddfaohdnaaGreatDoor
end
section
namespace Go.Proofs.YtjbhhddfaohdnaaGreatDoor
open Go Go.Abs Go.Proofs
set_option maxRecDepth 10000
set_option maxHeartbeats 4000000
def joinW (x y:W):W:=⟨x.pos++y.pos,x.neg++y.neg⟩
def bothL (a b:List W):List W:=a.flatMap fun x=>b.map (joinW x)
theorem bothL_len (a b:List W):(bothL a b).length=a.length * b.length:=by
 induction a with
 | nil=>simp [bothL]
 | cons x l ih=>simp only [bothL,List.flatMap_cons,List.length_append,List.length_map,List.length_cons] at ih ⊢; rw [ih]; rw [Nat.add_mul]; omega
def midW (w:W):Prop:=w.pos.length≤100000000∧w.neg.length≤100000000
theorem both_okW (a b:List W) (ha:∀ x∈a,midW x) (hb:∀ x∈b,midW x) (hla:a.length≤10000000) (hlb:b.length≤10000000) (hl:a.length * b.length≤1000000000):FnW Tryz.prog 230 [.pd (ways a),.pd (ways b)] [ways (bothL a b)]:=by
 refine FnW.mk Tryz.func230 rfl ent230 (by simp [Tryz.ntmps230]) fun w G=>?_
 (refine ev8 ?_; simp only [go_sem])
 refine R.mkOwn 5 5 53 2 (by (simp only [go_sem])) rfl rfl ?_
 (simp only [go_sem])
 (refine ev8 ?_; simp only [go_sem])
 refine R.famU (fun (k:Nat) s=>St.lp [1,4,10,11,40] [(12,.pd (I k)),(5,.own 5)] [] [] [] [(5,⟨53,2,(bothL (a.take k) b).map way⟩)] s) (fun (k:Nat)=>k≤a.length) (fun (k:Nat)=>a.length - k) (0) (by omega) (by (simp only [go_sem]); all_goals (and_intros <;> rfl)) ?_
 rintro k hk
 (refine evC8 ?_; simp only [go_sem,List.cons.injEq,SV.pd.injEq,ite_self])
 refine ⟨fun h=>?_,fun h=>?_⟩
 ·have hlt:k<a.length:=by simpa using h
  have hka:=ha a[k] (List.getElem_mem hlt)
  (refine evC8 ?_; simp only [go_sem,List.cons.injEq,SV.pd.injEq,getD_map,hlt])
  (repeat (refine And.intro (by omega) ?_))
  have h0:(bothL (a.take k) b).map way=(bothL (a.take k) b++(b.take 0).map (joinW a[k])).map way:=by simp
  refine R.famU (fun (j:Nat) s=>St.lp [1,4,7,10,11,12,16,17,39,40] [(18,.pd (I j)),(5,.own 5)] [7] [] [] [(5,⟨53,2,(bothL (a.take k) b++(b.take j).map (joinW a[k])).map way⟩)] s) (fun (j:Nat)=>j≤b.length) (fun (j:Nat)=>b.length - j) (0) (by omega) (by (simp only [go_sem,h0]); all_goals (and_intros <;> rfl)) ?_
  rintro j hj
  (refine evC8 ?_; simp only [go_sem,List.cons.injEq,SV.pd.injEq,ite_self])
  refine ⟨fun h2=>?_,fun h2=>?_⟩
  ·have hlt2:j<b.length:=by simpa using h2
   have hjb:=hb b[j] (List.getElem_mem hlt2)
   (refine evC8 ?_; simp only [go_sem,List.cons.injEq,SV.pd.injEq,getD_map,hlt2])
   (repeat (refine And.intro (by omega) ?_))
   refine R.drawE2 15 80 mixed (by kernel_rfl) ?_; simp only [go_sem]
   have c1:=concatI_ok [a[k].pos,b[j].pos] (by simp) (by have:=hka.1; have:=hjb.1; simp; omega)
   have c2:=concatI_ok [a[k].neg,b[j].neg] (by simp) (by have:=hka.2; have:=hjb.2; simp; omega)
   simp only [List.flatten_cons,List.flatten_nil,List.append_nil,List.map_cons,List.map_nil] at c1 c2
   refine RY.callW (by rfl) (c1) rfl rfl (.cons (.pd _) (.nil)) (by simp [plain,PD.plain]) (by simp only [go_sem]) ?_
   (refine evY_ok 80 _ _ ?_; simp only [go_sem])
   refine RY.callW (by rfl) (c2) rfl rfl (.cons (.pd _) (.nil)) (by simp [plain,PD.plain]) (by simp only [go_sem]) ?_
   (refine evY_ok 80 _ _ ?_; simp only [go_sem])
   have hlen:(bothL (a.take k) b++(b.take j).map (joinW a[k])).length+1≤1000000000:=by
    rw [List.length_append,bothL_len,List.length_map,List.length_take,List.length_take,Nat.min_eq_left hk,Nat.min_eq_left hj]
    have h3:k * b.length+b.length≤a.length * b.length:=by rw [← Nat.succ_mul]; exact Nat.mul_le_mul_right _ hlt
    omega
   have hsn:(b.take (j+1)).map (joinW a[k])=(b.take j).map (joinW a[k])++[joinW a[k] b[j]]:=by rw [List.take_succ_eq_append_getElem hlt2,List.map_append]; rfl
   refine R.append1 (d:=way (joinW a[k] b[j])) 1000000000 48 rfl rfl (by (simp only [go_sem])) rfl rfl rfl rfl sl32 rfl sz53 (by simp) (congrArg (Option.map List.length) ze53) rfl by53 (by simpa using hlen) (by decide) (by decide) ?_
   (refine ev8 ?_; simp only [go_sem,wrapN (k:=j) (by omega)])
   refine R.famEnd (j+1) (by omega) (by show _<_; omega) (by (simp only [go_sem,hsn,List.map_append,List.append_assoc,List.map_cons,List.map_nil]); all_goals (and_intros <;> rfl))
  ·have hge:¬ j<b.length:=by simpa using h2
   have hje:b.take j=b:=List.take_of_length_le (by omega)
   have hsn:bothL (a.take (k+1)) b=bothL (a.take k) b++b.map (joinW a[k]):=by unfold bothL; rw [List.take_succ_eq_append_getElem hlt,List.flatMap_append]; simp only [List.flatMap_cons,List.flatMap_nil,List.append_nil]
   (refine ev8 ?_; simp only [go_sem,hje,wrapN (k:=k) (by omega)])
   refine R.famEnd (k+1) (by omega) (by show _<_; omega) (by (simp only [go_sem,hsn]); all_goals (and_intros <;> rfl))
 ·have hge:¬ k<a.length:=by simpa using h
  have hke:a.take k=a:=List.take_of_length_le (by omega)
  (refine ev8 ?_; simp only [go_sem,hke])
  refine R.frz 5 rfl rfl ?_
  (simp only [go_sem])
  refine R.retW (vc:=True) ?_ trivial
  rfl
end Go.Proofs.YtjbhhddfaohdnaaGreatDoor
end
section
namespace Go.Proofs.YtjbhhddfaohdnaaGreatDoor
open Go Go.Abs Go.Proofs
set_option maxRecDepth 10000
set_option maxHeartbeats 4000000
theorem ent227:Ent Tryz.prog 227:=fun _ _=>by kernel_rfl
abbrev AM:=List (ByteArray × Ans)
abbrev encM (m:AM):AMap:=m.map fun p=>(.string p.1,ans p.2)
def addL (n:ByteArray) (row:List V) (l:List W):AM→AM
 | []=>[(n,⟨row,l⟩)]
 | (n',a)::m=>if n'=n then (n,⟨row,a.ways++l⟩)::m else (n',a)::addL n row l m
def waysAt (n:ByteArray):AM→Option (List W)
 | []=>none
 | (n',a)::m=>if n'=n then some a.ways else waysAt n m
theorem addL_none {n:ByteArray} {row:List V} {l:List W}:∀ {m:AM},(∀ p∈m,p.1≠n)→addL n row l m=m++[(n,⟨row,l⟩)]
 | [],_=>rfl
 | (n',a)::m,h=>by
  have h1:n'≠n:=h (n',a) (List.mem_cons_self ..)
  simp only [addL,if_neg h1,List.cons_append,addL_none (fun p hp=>h p (List.mem_cons_of_mem _ hp))]
theorem addL_some {n:ByteArray} {row:List V} {l:List W}:∀ {m:AM} {i:Nat} (hi:i<m.length),m[i].1=n→(∀ j (hj:j<i),(m[j]'(by omega)).1≠n)→addL n row l m=m.set i (n,⟨row,m[i].2.ways++l⟩)
 | (n',a)::m,0,_,h,_=>by simp only [List.getElem_cons_zero] at h; simp [addL,h]
 | (n',a)::m,i+1,hi,h,h2=>by
  have h1:n'≠n:=h2 0 (by omega)
  simp only [addL,if_neg h1,List.set_cons_succ,List.getElem_cons_succ]
  rw [addL_some (by simpa using hi) (by simpa using h) (fun j hj=>by simpa using h2 (j+1) (by omega))]
theorem ansUp:PUp (.raw (.slice none 0 0)) (ways []):=.nil 2
theorem add_ok (r:Nat) (m:AM) (row:List V) (l:List W) (hnd:(m.map (·.1)).Nodup) (hl:row.length≤1000000000) (hb:(rowN row).length≤100000000000) (hw:∀ p∈m,p.2.ways.length+l.length≤1000000000000) (hl2:l.length≤1000000000000):
  FnM Tryz.prog 227 [.pd (.raw (.map (some r))),.pd (vals row),.pd (ways l)] [(r,encM m)] [r] (fun res M'=>res = .ret []∧M'=[(r,encM (addL (rowB row) row l m))]):=by
 refine FnM.mk Tryz.func227 rfl ent227 (by simp [Tryz.ntmps227]) fun w G=>?_
 (refine ev8 ?_; simp only [go_sem])
 refine R.callW (by rfl) (rowName_ok row hl hb) rfl rfl (.cons (.pd _) (.nil)) (by simp [plain,PD.plain]) (by simp only [go_sem]) ?_
 (refine ev8 ?_; simp only [go_sem])
 have hks:∀ p∈encM m,keyOk .string p.1=true:=by
  intro p hp
  obtain ⟨q,_,rfl⟩:=List.mem_map.1 hp
  rfl
 have hkk:∀ k∈(encM m).map (·.1),keyOk .string k=true:=by
  intro k hk
  obtain ⟨p,hp,rfl⟩:=List.mem_map.1 hk
  exact hks p hp
 by_cases hex:∃ p∈m,p.1=rowB row
 ·obtain ⟨q,hq,hqn⟩:=hex
  obtain ⟨i,hi,rfl⟩:=List.getElem_of_mem hq
  have hmin:∀ j (hj:j<i),(m[j]'(by omega)).1≠rowB row:=by
   intro j hj e
   have:=(List.pairwise_iff_getElem.1 hnd) j i (by simp; omega) (by simp; omega) hj
   simp only [List.getElem_map] at this
   exact this (e.trans hqn.symm)
  have hadd:=addL_some (row:=row) (l:=l) hi hqn hmin
  have hnd2:((encM m).map (·.1)).Nodup:=by
   simp only [encM,List.map_map,List.Nodup,List.pairwise_map] at hnd ⊢
   exact hnd.imp fun h e=>h (by simpa using e)
  have hie:i<(encM m).length:=by simpa using hi
  have hgi:(encM m).getD i (undef,.tup [])=(.string (rowB row),ans m[i].2):=by simp [hi,hqn]
  have hlook:lookD Tryz.prog 39 .string (.string (rowB row)) ((encM m).map (·.1)) ((encM m).map (·.2)) true (ans m[i].2):=by
   refine ⟨rfl,hkk,hnd2,i,by simpa using hi,?_,?_⟩
   ·simp [hi,hqn]
   ·simp [hi]
  refine R.lookM (m:=encM m) rfl rfl (dstP_ok (by (simp only [go_sem]))) rfl (by simp [St.map,lk]) rfl mp95 hlook ?_
  have hlen:=hw m[i] (List.getElem_mem hi)
  have hcc:=concatW_ok [m[i].2.ways,l] (by simp) (by simp; omega)
  simp only [List.flatten_cons,List.flatten_nil,List.append_nil,List.map_cons,List.map_nil] at hcc
  (refine ev8 ?_; simp only [go_sem])
  refine R.callW (by rfl) (hcc) rfl rfl (.cons (.pd _) (.nil)) (by simp [plain,PD.plain]) (by simp only [go_sem]) ?_
  (refine ev8 ?_; simp only [go_sem])
  refine R.updOld (i:=i) (m:=encM m) (.inl rfl) rfl (dstP_ok (by (simp only [go_sem]))) rfl (by simp [St.map,lk]) rfl rfl mp95 rfl hks (.inr (by simp [cmM])) hie (by rw [hgi]) ?_
  (refine ev8 ?_; simp only [go_sem])
  refine R.overM (vc:=True) [(r,encM (addL (rowB row) row l m))] rfl trivial ⟨rfl,rfl⟩ (fun r' m' h=>?_)
  simp only [lk] at h
  split at h
  ·rename_i e; subst e; cases h
   refine ⟨?_,.inl (by simp)⟩
   rw [hadd]
   simp only [St.map,St.put,lk,up,if_true,encM,List.map_set]
  ·cases h
 ·have hno:∀ p∈m,p.1≠rowB row:=fun p hp e=>hex ⟨p,hp,e⟩
  have hadd:=addL_none (row:=row) (l:=l) hno
  have hlook:lookD Tryz.prog 39 .string (.string (rowB row)) ((encM m).map (·.1)) ((encM m).map (·.2)) false (.tup [NIL,NIL]):=by
   refine ⟨rfl,fun k hk=>⟨hkk k hk,fun e=>?_⟩,zd39⟩
   simp only [encM,List.map_map,List.mem_map,Function.comp] at hk
   obtain ⟨p,hp,rfl⟩:=hk
   exact hno p hp (by simpa using e)
  refine R.lookM (m:=encM m) rfl rfl (dstP_ok (by (simp only [go_sem]))) rfl (by simp [St.map,lk]) rfl mp95 hlook ?_
  (refine ev_ok 1 _ _ ?_; simp only [go_sem])
  refine R.up 15 (by (simp only [go_sem])) rfl ansUp ?_
  have hcc:=concatW_ok [[],l] (by simp) (by simp; omega)
  simp only [List.flatten_cons,List.flatten_nil,List.append_nil,List.nil_append,List.map_cons,List.map_nil] at hcc
  (refine ev8 ?_; simp only [go_sem])
  refine R.callW (by rfl) (hcc) rfl rfl (.cons (.pd _) (.nil)) (by simp [plain,PD.plain]) (by simp only [go_sem]) ?_
  (refine ev8 ?_; simp only [go_sem])
  refine R.updNew (m:=encM m) (.inl rfl) rfl (dstP_ok (by (simp only [go_sem]))) rfl (by simp [St.map,lk]) rfl rfl mp95 rfl (fun p hp=>⟨hks p hp,fun e=>?_⟩) (.inr (by simp [cmM])) ?_
  ·obtain ⟨q,hq,rfl⟩:=List.mem_map.1 hp
   exact hno q hq (by simpa using e)
  (refine ev8 ?_; simp only [go_sem,noIt])
  refine R.overM (vc:=True) [(r,encM (addL (rowB row) row l m))] rfl trivial ⟨rfl,rfl⟩ (fun r' m' h=>?_)
  simp only [lk] at h
  split at h
  ·rename_i e; subst e; cases h
   refine ⟨?_,.inl (by simp)⟩
   rw [hadd]
   simp [St.map,St.put,lk,up,encM]
  ·cases h
end Go.Proofs.YtjbhhddfaohdnaaGreatDoor
end
section
namespace Go.Proofs.YtjbhhddfaohdnaaGreatDoor
open Go Go.Abs Go.Proofs
set_option maxRecDepth 10000
set_option maxHeartbeats 4000000
theorem ent88:Ent Tryz.prog 88:=fun _ _=>by kernel_rfl
theorem ent156:Ent Tryz.prog 156:=fun _ _=>by kernel_rfl
theorem ent150:Ent Tryz.prog 150:=fun _ _=>by kernel_rfl
def wkindsM:AMap:=[(key 1,F 150),(key 2,F 151),(key 3,F 152),(key 4,F 153),(key 5,F 154),(key 6,F 155),(key 7,F 156)]
theorem wkinds_ok:FnW Tryz.prog 88 [] [.mp (wkindsM.map (·.1)) (wkindsM.map (·.2))]:=by
 refine FnW.mk Tryz.func88 rfl ent88 (by simp [Tryz.ntmps88]) fun w G=>?_
 (refine ev8 ?_; simp only [go_sem])
 refine R.makeMap rfl rfl rfl (by (simp only [go_sem])) fun r hr hr0=>?_
 clear hr0
 (refine ev8 ?_; simp only [go_sem])
 refine R.updNew (.inr rfl) rfl (dstP_ok (by (simp only [go_sem]))) rfl (by (simp only [go_sem]); try rfl) rfl rfl mp139 rfl (by simp [keyOk]) (.inl hr) ?_
 (refine ev8 ?_; simp only [go_sem,noIt])
 refine R.updNew (.inr rfl) rfl (dstP_ok (by (simp only [go_sem]))) rfl (by (simp only [go_sem]); try rfl) rfl rfl mp139 rfl (by simp [keyOk]) (.inl hr) ?_
 (refine ev8 ?_; simp only [go_sem,noIt])
 refine R.updNew (.inr rfl) rfl (dstP_ok (by (simp only [go_sem]))) rfl (by (simp only [go_sem]); try rfl) rfl rfl mp139 rfl (by simp [keyOk]) (.inl hr) ?_
 (refine ev8 ?_; simp only [go_sem,noIt])
 refine R.updNew (.inr rfl) rfl (dstP_ok (by (simp only [go_sem]))) rfl (by (simp only [go_sem]); try rfl) rfl rfl mp139 rfl (by simp [keyOk]) (.inl hr) ?_
 (refine ev8 ?_; simp only [go_sem,noIt])
 refine R.updNew (.inr rfl) rfl (dstP_ok (by (simp only [go_sem]))) rfl (by (simp only [go_sem]); try rfl) rfl rfl mp139 rfl (by simp [keyOk]) (.inl hr) ?_
 (refine ev8 ?_; simp only [go_sem,noIt])
 refine R.updNew (.inr rfl) rfl (dstP_ok (by (simp only [go_sem]))) rfl (by (simp only [go_sem]); try rfl) rfl rfl mp139 rfl (by simp [keyOk]) (.inl hr) ?_
 (refine ev8 ?_; simp only [go_sem,noIt])
 refine R.updNew (.inr rfl) rfl (dstP_ok (by (simp only [go_sem]))) rfl (by (simp only [go_sem]); try rfl) rfl rfl mp139 rfl (by simp [keyOk]) (.inl hr) ?_
 (refine ev8 ?_; simp only [go_sem,noIt])
 refine R.frzMap r wkindsM (by simp [St.map,lk,wkindsM]) hr ?_
 (simp only [go_sem,SV.thaw,PD.thaw,noIt])
 refine R.retW (vc:=True) ?_ trivial
 rfl
abbrev mref (r:Nat):PD:=.raw (.map (some r))
abbrev qry (p:Plan) (facts:List Fct) (ks:List Nat):PD:=.tup [I p.kind,I p.table,plans p.kids,tsts p.tests,ints p.cols,I p.col,I p.agg,attrs p.attrs,fcts facts,.list 1 (ks.map mref)]
theorem wrename_ok (p:Plan) (facts:List Fct) (r:Nat) (ks:List Nat):FnW Tryz.prog 156 [.pd (qry p facts (r::ks))] [mref r]:=by
 refine FnW.mk Tryz.func156 rfl ent156 (by simp [Tryz.ntmps156]) fun w G=>?_
 (refine evQW_ok [] 120 _ _ ?_; simp only [go_sem,evQ,rtC,↓reduceIte,List.cons.injEq,SV.pd.injEq,PD.raw.injEq,Value.bool.injEq,Value.int.injEq,Tryz.results156,Int.toNat_zero])
 omega
theorem addL_keys (n:ByteArray) (row:List V) (l:List W):∀ (m:AM) (x:ByteArray),x∈(addL n row l m).map (·.1)↔x=n∨x∈m.map (·.1)
 | [],x=>by simp [addL]
 | (n',a)::m,x=>by
  simp only [addL]
  split
  ·rename_i e; subst e; simp
  ·simp only [List.map_cons,List.mem_cons,addL_keys n row l m x]
   constructor
   ·rintro (h | h | h) <;> simp [h]
   ·rintro (h | h | h) <;> simp [h]
theorem addL_nodup {n:ByteArray} {row:List V} {l:List W}:∀ {m:AM},(m.map (·.1)).Nodup→((addL n row l m).map (·.1)).Nodup
 | [],_=>by simp [addL]
 | (n',a)::m,h=>by
  simp only [List.map_cons,List.nodup_cons] at h
  simp only [addL]
  split
  ·rename_i e; subst e; simpa using h
  ·rename_i e
   simp only [List.map_cons,List.nodup_cons,addL_keys]
   exact ⟨fun hx=>hx.elim e h.1,addL_nodup h.2⟩
theorem addL_ways {n:ByteArray} {row:List V} {l:List W} {c:Nat}:∀ {m:AM},(∀ p∈m,p.2.ways.length≤c)→∀ p∈addL n row l m,p.2.ways.length≤c+l.length
 | [],_,p,hp=>by simp only [addL,List.mem_singleton] at hp; subst hp; simp
 | (n',a)::m,h,p,hp=>by
  simp only [addL] at hp
  split at hp
  ·rcases List.mem_cons.1 hp with rfl | hp
   ·have:=h (n',a) (List.mem_cons_self ..); simp at this ⊢; omega
   ·have:=h p (List.mem_cons_of_mem _ hp); omega
  ·rcases List.mem_cons.1 hp with rfl | hp
   ·have:=h (n',a) (List.mem_cons_self ..); omega
   ·exact addL_ways (fun q hq=>h q (List.mem_cons_of_mem _ hq)) p hp
def tabS (t:Int) (m:AM) (q:Fct × Nat):AM:=if q.1.table=t then addL (rowB q.1.row) q.1.row [⟨[(q.2:Int)],[]⟩] m else m
def tabL (t:Int) (facts:List Fct) (k:Nat):AM:=((facts.take k).zipIdx).foldl (tabS t) []
theorem tabL_succ (t:Int) (facts:List Fct) (k:Nat) (h:k<facts.length):tabL t facts (k+1)=tabS t (tabL t facts k) (facts[k],k):=by
 unfold tabL
 rw [List.take_succ_eq_append_getElem h,List.zipIdx_append,List.foldl_append]
 have:(facts.take k).length=k:=by simp; omega
 simp [this]
theorem tabL_ok (t:Int) (facts:List Fct):∀ k,k≤facts.length→((tabL t facts k).map (·.1)).Nodup∧∀ p∈tabL t facts k,p.2.ways.length≤k
 | 0,_=>by simp [tabL]
 | k+1,h=>by
  obtain ⟨h1,h2⟩:=tabL_ok t facts k (by omega)
  rw [tabL_succ t facts k (by omega)]
  unfold tabS
  split
  ·exact ⟨addL_nodup h1,addL_ways h2⟩
  ·exact ⟨h1,fun p hp=>by have:=h2 p hp; omega⟩
theorem wayUp (i:Int):PUp (.list 2 [.tup [ints [i],NIL]]) (ways [⟨[i],[]⟩]):=
 .list 2 rfl (fun j hj=>by
  have:j=0:=by simpa using hj
  subst this
  exact ⟨_,_,rfl,rfl,.cons (.same _) (.cons (.nil 1) .nil)⟩)
def okRow (row:List V):Prop:=row.length≤1000000000∧(rowN row).length≤100000000000
theorem wtable_ok (p:Plan) (facts:List Fct) (ks:List Nat) (hl:facts.length≤100000000) (hr:∀ f∈facts,okRow f.row):
  FnM Tryz.prog 150 [.pd (qry p facts ks)] [] [] (fun res M'=>∃ r,res = .ret [mref r]∧M'=[(r,encM (tabL p.table facts facts.length))]):=by
 refine FnM.mk Tryz.func150 rfl ent150 (by simp [Tryz.ntmps150]) fun w G=>?_
 (refine ev8 ?_; simp only [go_sem])
 refine R.makeMap rfl rfl rfl (by (simp only [go_sem])) fun r hr1 hr0=>?_
 clear hr0
 (refine ev8 ?_; simp only [go_sem])
 refine R.famU (fun (k:Nat) s=>{ St.lp [1,2,3,8,9,30] [(10,.pd (I k))] [1] [] [] [] s with maps:=[(r,.map (encM (tabL p.table facts k)))] }) (fun (k:Nat)=>k≤facts.length) (fun (k:Nat)=>facts.length - k) (0) (by omega) (by (simp only [go_sem,tabL]); all_goals (and_intros <;> first | rfl | simp)) ?_
 rintro k hk
 obtain ⟨hnd,hways⟩:=tabL_ok p.table facts k hk
 (refine evC8 ?_; simp only [go_sem,List.cons.injEq,SV.pd.injEq,ite_self])
 refine ⟨fun h=>?_,fun h=>?_⟩
 ·have hlt:k<facts.length:=by simpa using h
  have hrow:=hr facts[k] (List.getElem_mem hlt)
  have hsucc:=tabL_succ p.table facts k hlt
  (refine evC8 ?_; simp only [go_sem,List.cons.injEq,SV.pd.injEq,getD_map,hlt])
  (repeat (refine And.intro (by omega) ?_))
  refine ⟨fun h2=>?_,fun h2=>?_⟩
  ·have h2:facts[k].table=p.table:=by simpa using h2
   have hs:tabL p.table facts (k+1)=addL (rowB facts[k].row) facts[k].row [⟨[(k:Int)],[]⟩] (tabL p.table facts k):=by rw [hsucc]; simp [tabS,h2]
   (refine ev8 ?_; simp only [go_sem])
   refine R.up 27 (by (simp only [go_sem])) rfl (wayUp _) ?_
   (simp only [go_sem])
   refine R.callM (by rfl) 60 (by rfl) rfl rfl (dstP_ok (by (simp only [go_sem]))) (.cons (.pd _) (.cons (.pd _) (.cons (.pd _) .nil))) (add_ok r (tabL p.table facts k) facts[k].row [⟨[(k:Int)],[]⟩] hnd hrow.1 hrow.2 (fun q hq=>by have:=hways q hq; simp; omega) (by simp)) (fun r' m' h=>?_) (fun r' h=>?_) ?_
   ·simp only [lk] at h ⊢
    split at h
    ·rename_i e; subst e; cases h; simp [St.map,lk]
    ·cases h
   ·simp only [List.mem_singleton] at h; subst h; exact ⟨by simp [lk],.inl hr1⟩
   rintro res M' ⟨rfl,rfl⟩ hh; clear hh
   simp only [Behind]
   rw [← hs]
   (refine ev8 ?_; simp only [go_sem,wrapN (k:=k) (by omega),List.filter_cons])
   refine R.famEnd (k+1) (by omega) (by show _<_; omega) (by (simp only [go_sem]); all_goals (and_intros <;> rfl))
  ·have h2:¬ facts[k].table=p.table:=by simpa using h2
   have hs:tabL p.table facts (k+1)=tabL p.table facts k:=by rw [hsucc]; simp [tabS,h2]
   (refine ev8 ?_; simp only [go_sem,wrapN (k:=k) (by omega)])
   refine R.famEnd (k+1) (by omega) (by show _<_; omega) (by (simp only [go_sem,hs]); all_goals (and_intros <;> rfl))
 ·have hge:¬ k<facts.length:=by simpa using h
  have hke:k=facts.length:=by omega
  subst hke
  (refine ev8 ?_; simp only [go_sem])
  refine R.retM (vc:=True) [(r,encM (tabL p.table facts facts.length))] rfl trivial ⟨r,rfl,rfl⟩ (fun r' m' h=>?_)
  simp only [lk] at h
  split at h
  ·rename_i e; subst e; cases h; exact ⟨by simp [St.map,lk],.inr hr1⟩
  ·cases h
end Go.Proofs.YtjbhhddfaohdnaaGreatDoor
end
section
namespace Go.Proofs.YtjbhhddfaohdnaaGreatDoor
open Go Go.Abs Go.Proofs
abbrev AddL:=List (List V × List W)
def runA (L:AddL):AM:=L.foldl (fun m x=>addL (rowB x.1) x.1 x.2 m) []
theorem runA_snoc (L:AddL) (x:List V × List W):runA (L++[x])=addL (rowB x.1) x.1 x.2 (runA L):=by simp [runA]
theorem foldl_rev {P:AddL→AM→Prop} (h0:P [] []) (hs:∀ L x m,P L m→P (L++[x]) (addL (rowB x.1) x.1 x.2 m)) (L:AddL):P L (runA L):=by
 have:∀ (n:Nat) (L:AddL),L.length=n→P L (runA L):=by
  intro n
  induction n with
  | zero=>intro L h; rw [List.length_eq_zero_iff.1 h]; exact h0
  | succ n ih=>
   intro L h
   rcases List.eq_nil_or_concat L with rfl | ⟨L',x,rfl⟩
   ·simp at h
   ·simp only [List.concat_eq_append] at h ⊢
    rw [runA_snoc]
    exact hs L' x _ (ih L' (by simpa using h))
 exact this _ L rfl
theorem runA_nodup (L:AddL):((runA L).map (·.1)).Nodup:=foldl_rev (P:=fun _ m=>(m.map (·.1)).Nodup) (by simp) (fun _ _ _ h=>addL_nodup h) L
def sumW (L:AddL):Nat:=(L.map fun x=>x.2.length).sum
theorem sumW_snoc (L:AddL) (x:List V × List W):sumW (L++[x])=sumW L+x.2.length:=by simp [sumW]
theorem sumW_app (L M:AddL):sumW (L++M)=sumW L+sumW M:=by simp [sumW]
theorem sumW_perm {L M:AddL} (h:L.Perm M):sumW L=sumW M:=(h.map _).sum_nat
theorem runA_ways (L:AddL):∀ p∈runA L,p.2.ways.length≤sumW L:=
 foldl_rev (P:=fun L m=>∀ p∈m,p.2.ways.length≤sumW L) (by simp) (fun L x m h p hp=>by rw [sumW_snoc]; exact addL_ways h p hp) L
def okD (L:AddL):Prop:=(∀ x∈L,okRow x.1)∧sumW L≤500000000000
theorem okD_perm {L M:AddL} (h:L.Perm M) (o:okD L):okD M:=⟨fun x hx=>o.1 x (h.mem_iff.2 hx),by rw [← sumW_perm h]; exact o.2⟩
theorem okD_left {L M:AddL} (o:okD (L++M)):okD L:=⟨fun x hx=>o.1 x (List.mem_append_left _ hx),by have:=o.2; rw [sumW_app] at this; omega⟩
theorem addA_ok (r:Nat) (L:AddL) (x:List V × List W) (o:okD (L++[x])):
  FnM Tryz.prog 227 [.pd (.raw (.map (some r))),.pd (vals x.1),.pd (ways x.2)] [(r,encM (runA L))] [r] (fun res M'=>res = .ret []∧M'=[(r,encM (runA (L++[x])))]):=by
 have h1:=o.1 x (by simp)
 have h2:=o.2
 rw [sumW_snoc] at h2
 rw [runA_snoc]
 exact add_ok r (runA L) x.1 x.2 (runA_nodup L) h1.1 h1.2 (fun p hp=>by have:=runA_ways L p hp; omega) (by omega)
def isAdds (L0:AddL) (res:Res) (M':Maps):Prop:=∃ r L,res = .ret [mref r]∧M'=[(r,encM (runA L))]∧L.Perm L0
abbrev add1 (p:ByteArray × Ans):AddL:=[(p.2.row,p.2.ways)]
abbrev addsM (m:AM):AddL:=m.flatMap add1
theorem encA_nil:encM (runA [])=[]:=rfl
theorem adds_step {A L:AddL} {done:AM} {g:ByteArray × Ans→AddL} (hL:L.Perm (A++done.flatMap g)) (q:ByteArray × Ans):(L++g q).Perm (A++(done++[q]).flatMap g):=by
 rw [List.flatMap_append,← List.append_assoc]
 simpa using hL.append_right (g q)
theorem okD_step {A L:AddL} {m done rest:AM} {g:ByteArray × Ans→AddL} {q:ByteArray × Ans} (ho:okD (A++m.flatMap g)) (hp:((done++[q])++rest).Perm m) (hL:L.Perm (A++done.flatMap g)):okD (L++g q):=by
 have h1:(A++m.flatMap g).Perm ((L++g q)++rest.flatMap g):=by
  refine (List.Perm.append_left A (List.Perm.flatMap_right g hp.symm)).trans ?_
  rw [List.flatMap_append,← List.append_assoc]
  exact (adds_step hL q).symm.append_right _
 exact okD_left (okD_perm h1 ho)
theorem ne_both {a b:Nat} (h:a≠b):¬ a=b∧¬ b=a∧(a == b)=false∧(b == a)=false:=⟨h,fun e=>h e.symm,by simpa using h,by simpa using fun e:b=a=>h e.symm⟩
theorem map_ne {s:St} {r q:Nat} {x:AObj} (h:s.map r=none) (h1:s.map q=some x):q≠r:=by rintro rfl; rw [h] at h1; cases h1
def keyS (p:ByteArray × Ans):Value:=.string p.1
theorem encM_keys (m:AM):(encM m).map (·.1)=m.map keyS:=by simp [encM,keyS,Function.comp_def]
theorem encM_one (m:AM):∀ p∈encM m,p.1.oneCell'=true:=by
 intro p hp
 obtain ⟨q,_,rfl⟩:=List.mem_map.1 hp
 rfl
theorem encM_at (m:AM) (i:Nat) (h:i<m.length):(encM m).getD i (undef,.tup [])=(.string m[i].1,ans m[i].2):=by simp [encM,h]
theorem nodup_at {m:AM} (hn:(m.map (·.1)).Nodup) {p:ByteArray × Ans} (hp:p∈m) {i:Nat} (hi:i<m.length) (h:m[i].1=p.1):m[i]=p:=by
 obtain ⟨j,hj,rfl⟩:=List.getElem_of_mem hp
 have hp:=List.pairwise_iff_getElem.1 hn
 rcases Nat.lt_trichotomy i j with h1 | h1 | h1
 ·exact (hp i j (by simpa using hi) (by simpa using hj) h1 (by simpa using h)).elim
 ·subst h1; rfl
 ·exact (hp j i (by simpa using hj) (by simpa using hi) h1 (by simpa using h.symm)).elim
section
variable {C:Cx} {s:St} {all:Array Oper} {l:List Oper} {k:List KI} {o:Oper}
theorem R.rangeA {t:TypeId} {x:Operand} {d r:Nat} (m:AM) (ho:o.op = .range t x) (hg:o.guard=none) (hd:o.dst=some d) (hn:d<s.n) (hx:evO s x = .pd (mref r)) (hm:s.map r=some (.map (encM m))) (ht:(mpT C.P t).isSome=true)
  (next:∀ b,b≠r→s.map b=none→R C (.ops all l::k) (St.set { s with maps:=(b,.it r (m.map keyS) none)::s.maps } d (.pd (.raw (.pointer (some ⟨b,0,none⟩)))))):R C (.ops all (o::l)::k) s:=
 R.range ho hg hd hn hx hm ht (fun b h1 h2=>by rw [encM_keys]; exact next b h1 h2)
theorem R.nextA {x:Operand} {b r:Nat} {m done left:AM} {cur:Option Value} (hnd:(m.map (·.1)).Nodup) (hp:(done++left).Perm m) (ho:o.op = .next x false) (hg:o.guard=none) (hd:dstOk s o) (hx:evO s x = .pd (.raw (.pointer (some ⟨b,0,none⟩)))) (hit:s.map b=some (.it r (left.map keyS) cur)) (hm:s.map r=some (.map (encM m)))
  (over:left=[]→R C (.ops all l::k) (s.put o.dst (.tpl [.raw (.bool false)])))
  (step:∀ l1 p l2,left=l1++p::l2→p∈m→((done++[p])++(l1++l2)).Perm m→R C (.ops all l::k) (St.put { s with maps:=up b (.it r ((l1++l2).map keyS) (some (keyS p))) s.maps } o.dst (.tpl [.raw (.bool true),.raw (keyS p),ans p.2]))):R C (.ops all (o::l)::k) s:=by
 refine R.next ho hg hd hx hit hm (encM_one m) (fun h=>over (by simpa using h)) (fun l1 key l2 i h1 hi hik=>?_)
 obtain ⟨a,c,h2,rfl,h3⟩:=List.map_eq_append_iff.1 h1
 obtain ⟨p,c',rfl,rfl,rfl⟩:=List.map_eq_cons_iff.1 h3
 have hpm:p∈m:=hp.mem_iff.1 (by rw [h2]; simp)
 have hi:i<m.length:=by simpa using hi
 rw [encM_at m i hi] at hik
 have e:m[i]=p:=nodup_at hnd hpm hi (by simpa [keyS] using hik)
 rw [encM_at m i hi,e,← List.map_append]
 exact step a p c' h2 hpm (List.Perm.trans (by
  rw [h2]
  simp only [List.append_assoc,List.singleton_append]
  exact List.Perm.append_left _ (List.perm_middle.symm)) hp)
theorem R.entryA {x:Operand} {b r:Nat} {m:AM} {left:List Value} {p:ByteArray × Ans} (hnd:(m.map (·.1)).Nodup) (hpm:p∈m) (ho:o.op = .entry x) (hg:o.guard=none) (hd:dstOk s o) (hx:evO s x = .pd (.raw (.pointer (some ⟨b,0,none⟩)))) (hit:s.map b=some (.it r left (some (keyS p)))) (hm:s.map r=some (.map (encM m)))
  (next:R C (.ops all l::k) (s.put o.dst (.tpl [.raw (keyS p),ans p.2]))):R C (.ops all (o::l)::k) s:=by
 obtain ⟨i,hi,rfl⟩:=List.getElem_of_mem hpm
 refine R.entry (i:=i) ho hg hd hx hit hm (encM_one m) (by simpa using hi) (by rw [encM_at m i hi]; rfl) ?_
 rw [encM_at m i hi]; exact next
end
end Go.Proofs.YtjbhhddfaohdnaaGreatDoor
end
section
namespace Go.Proofs.YtjbhhddfaohdnaaGreatDoor
open Go Go.Abs Go.Proofs
set_option maxRecDepth 10000
set_option maxHeartbeats 4000000
theorem ent154:Ent Tryz.prog 154:=fun _ _=>by kernel_rfl
def unA (m1 m2:AM) (k:Nat):AddL:=(if 0<k then addsM m1 else [])++(if 1<k then addsM m2 else [])
theorem wunion_ok (p:Plan) (facts:List Fct) (r1 r2:Nat) (m1 m2:AM) (h12:r1≠r2) (n1:(m1.map (·.1)).Nodup) (n2:(m2.map (·.1)).Nodup) (ho:okD (addsM m1++addsM m2)):
  FnM Tryz.prog 154 [.pd (qry p facts [r1,r2])] [(r1,encM m1),(r2,encM m2)] [] (isAdds (addsM m1++addsM m2)):=by
 have hz:=ne_both h12
 obtain ⟨ks,hks⟩:∃ ks,ks=[r1,r2]:=⟨_,rfl⟩
 rw [← hks]
 refine FnM.mk Tryz.func154 rfl ent154 (by simp [Tryz.ntmps154]) fun w G=>?_
 (refine ev8 ?_; simp only [go_sem])
 refine R.makeMap rfl rfl rfl (by (simp only [go_sem])) fun r hr1 hr0=>?_
 have e1:=ne_both (map_ne (q:=r1) (x:=.map (encM m1)) hr0 (by simp [St.map,St.startM,lk]))
 have e2:=ne_both (map_ne (q:=r2) (x:=.map (encM m2)) hr0 (by simp [St.map,St.startM,lk,hz]))
 clear hr0
 (refine ev8 ?_; simp only [go_sem])
 refine R.famU (fun (x:Nat × AddL) s=>{ St.lp [2,3,10,11,29] [(12,.pd (I x.1))] [1] [] [] [] s with maps:=[(r,.map (encM (runA x.2))),(r1,.map (encM m1)),(r2,.map (encM m2))] }) (fun (x:Nat × AddL)=>x.1≤ks.length∧x.2.Perm (unA m1 m2 x.1)) (fun (x:Nat × AddL)=>ks.length - x.1) ((0,[])) (⟨by omega,by simp [unA]⟩) (by (simp only [go_sem,encA_nil,e1,e2,hz]); all_goals (and_intros <;> first | rfl | simp)) ?_
 rintro ⟨k,L⟩ ⟨hk,hL⟩
 simp only at hk hL
 have hks2:ks.length=2:=by rw [hks]; rfl
 (refine evC8 ?_; simp only [go_sem,List.cons.injEq,SV.pd.injEq,ite_self])
 refine ⟨fun h=>?_,fun h=>?_⟩
 ·have hlt:k<ks.length:=by simpa using h
  obtain ⟨rk,mk,hrk,hnk,hun,hlk,hrr,hok⟩:∃ rk mk,ks[k]=rk∧(mk.map (·.1)).Nodup∧unA m1 m2 (k+1)=unA m1 m2 k++addsM mk∧(∀ x:AObj,lk rk [(r,x),(r1,.map (encM m1)),(r2,.map (encM m2))]=some (.map (encM mk)))∧rk≠r∧okD (unA m1 m2 (k+1)):=by
   subst hks
   match k,hlt with
   | 0,_=>exact ⟨r1,m1,rfl,n1,by simp [unA],fun x=>by simp [lk,e1],e1.1,by simpa [unA] using okD_left ho⟩
   | 1,_=>exact ⟨r2,m2,rfl,n2,by simp [unA],fun x=>by simp [lk,e2,hz],e2.1,by simpa [unA] using ho⟩
  have e3:=ne_both hrr
  rw [hun] at hok
  (refine evC8 ?_; simp only [go_sem,List.cons.injEq,SV.pd.injEq,getD_map,hlt,hrk])
  (repeat (refine And.intro (by omega) ?_))
  refine R.rangeA mk rfl rfl rfl (by (simp only [go_sem])) rfl (by simpa [St.map] using hlk _) (by show (mpT Tryz.prog 95).isSome=true; rw [mp95]; rfl) fun b hb1 hb2=>?_
  have e4:=ne_both (map_ne (q:=r) (x:=.map (encM (runA L))) hb2 (by simp [St.map,lk]))
  have e5:=ne_both (map_ne (q:=r1) (x:=.map (encM m1)) hb2 (by simp [St.map,lk,e1]))
  have e6:=ne_both (map_ne (q:=r2) (x:=.map (encM m2)) hb2 (by simp [St.map,lk,e2,hz]))
  have e7:=ne_both hb1
  have hlk2:∀ x y:AObj,lk rk [(b,x),(r,y),(r1,.map (encM m1)),(r2,.map (encM m2))]=some (.map (encM mk)):=fun x y=>by have:=hlk y; simp only [lk,e7,if_false] at this ⊢; exact this
  clear hb1 hb2
  (refine ev8 ?_; simp only [go_sem])
  refine R.famU (fun (y:AM × AM × AddL × Option Value) s=>{ St.lp [2,3,10,11,12,17,28,29] [] [1] [] [] [] s with maps:=[(b,.it rk (y.2.1.map keyS) y.2.2.2),(r,.map (encM (runA y.2.2.1))),(r1,.map (encM m1)),(r2,.map (encM m2))] }) (fun (y:AM × AM × AddL × Option Value)=>(y.1++y.2.1).Perm mk∧y.2.2.1.Perm (unA m1 m2 k++addsM y.1)) (fun (y:AM × AM × AddL × Option Value)=>y.2.1.length) (([],mk,L,none)) (⟨.refl _,by simpa [addsM] using hL⟩) (by (simp only [go_sem,e1,e2,e4,e5,e6,hz]); all_goals (and_intros <;> first | rfl | simp)) ?_
  rintro ⟨done,left,L',cur⟩ ⟨hp,hL'⟩
  simp only at hp hL'
  (refine ev8 ?_; simp only [go_sem])
  refine R.nextA (m:=mk) (r:=rk) (cur:=cur) (left:=left) (done:=done) hnk hp rfl rfl (dstP_ok (by (simp only [go_sem]))) rfl (by simp [St.map,lk]) (by simpa [St.map] using hlk2 _ _) (fun hz0=>?_) (fun l1 q l2 hz0 hpm hp2=>?_)
  ·subst hz0
   have hL2:L'.Perm (unA m1 m2 (k+1)):=by rw [hun]; refine hL'.trans (List.Perm.append_left _ ?_); exact List.Perm.flatMap_right _ (by simpa using hp)
   (refine evL8 ?_; simp only [go_sem,↓reduceIte,wrapN (k:=k) (by omega)])
   refine R.famEnd (k+1,L') ⟨by omega,hL2⟩ (by show _<_; omega) (by (simp only [go_sem,e1,e2,e4,e5,e6,hz]); all_goals (and_intros <;> rfl))
  ·(refine evL8 ?_; simp only [go_sem,↓reduceIte,ite_self])
   refine R.entryA (p:=q) (left:=(l1++l2).map keyS) (r:=rk) hnk hpm rfl rfl (dstP_ok (by (simp only [go_sem]))) rfl (by simp [St.map,lk]) (by simpa [St.map,up] using hlk2 _ _) ?_
   (refine ev8 ?_; simp only [go_sem])
   have hpre:okD (L' ++ [(q.2.row,q.2.ways)]):=okD_step (g:=add1) hok hp2 hL'
   refine R.callM (by rfl) 60 (by rfl) rfl rfl (dstP_ok (by (simp only [go_sem]))) (.cons (.pd _) (.cons (.pd _) (.cons (.pd _) .nil))) (addA_ok r L' (q.2.row,q.2.ways) hpre) (fun r' m' h=>?_) (fun r' h=>?_) ?_
   ·simp only [lk] at h
    split at h
    ·rename_i e; subst e; cases h; simp [St.map,St.put,St.newVar,lk,up,e4]
    ·cases h
   ·simp only [List.mem_singleton] at h; subst h; exact ⟨by simp [lk],.inl hr1⟩
   rintro res M' ⟨rfl,rfl⟩ hh; clear hh
   simp only [Behind]
   (refine ev8 ?_; simp only [go_sem,List.filter_cons,e1,e2,e3,e4,e5,e6,hz])
   refine R.famEnd (done++[q],l1++l2,L' ++ [(q.2.row,q.2.ways)],some (keyS q)) ⟨hp2,adds_step hL' q⟩ (by (subst hz0; show _<_; simp <;> omega)) (by (simp only [go_sem,e1,e2,e4,e5,e6,hz]); all_goals (and_intros <;> rfl))
 ·have hge:¬ k<ks.length:=by simpa using h
  have hke:k=2:=by have:ks.length=2:=by rw [hks]; rfl
                   omega
  subst hke
  (refine ev8 ?_; simp only [go_sem])
  refine R.retM (vc:=True) [(r,encM (runA L))] rfl trivial ⟨r,L,rfl,rfl,by simpa [unA] using hL⟩ (fun r' m' h=>?_)
  simp only [lk] at h
  split at h
  ·rename_i e; subst e; cases h; exact ⟨by simp [St.map,lk],.inr hr1⟩
  ·cases h
end Go.Proofs.YtjbhhddfaohdnaaGreatDoor
end
section
namespace Go.Proofs.YtjbhhddfaohdnaaGreatDoor
open Go Go.Abs Go.Proofs
set_option maxRecDepth 10000
set_option maxHeartbeats 4000000
theorem ent151:Ent Tryz.prog 151:=fun _ _=>by kernel_rfl
theorem ent228:Ent Tryz.prog 228:=fun _ _=>by kernel_rfl
theorem ent229:Ent Tryz.prog 229:=fun _ _=>by kernel_rfl
def sideOk (row:List V) (s:Side):Prop:=s.var = -1∨(0≤s.col∧s.col.toNat<row.length)
def sideX (row:List V) (s:Side):V:=if s.var = -1 then s.val else row.getD s.col.toNat V.zero
theorem selS_ok (s:Side) (a:Ans) (h:sideOk a.row s):FnC Tryz.prog 228 [.pd (side s),.ref (ans a) 0] [val (sideX a.row s)]:=by
 refine FnC.mk Tryz.func228 rfl ent228 (by simp [Tryz.ntmps228]) fun w G=>?_
 (refine ev8 ?_; simp only [go_sem])
 refine ⟨fun h1=>?_,fun h1=>?_⟩
 ·have h1:s.var = -1:=by simpa using h1
  (refine ev8 ?_; simp only [go_sem])
  refine R.retC (vc:=True) ?_ trivial
  (simp only [go_sem,Tryz.results228,sideX,if_pos h1])
  try rfl
 ·have h1:¬ s.var = -1:=by simpa using h1
  obtain ⟨h2,h3⟩:0≤s.col∧s.col.toNat<a.row.length:=by
   rcases h with h | h
   ·exact (h1 h).elim
   ·exact h
  have hcast:((s.col.toNat:Nat):Int)=s.col:=Int.toNat_of_nonneg h2
  have hx:sideX a.row s=a.row[s.col.toNat]:=by simp [sideX,h1,h3]
  rw [hx]
  generalize s.col.toNat=q at hcast h3
  rw [← hcast]
  (refine evC8 ?_; simp only [go_sem,List.cons.injEq,SV.pd.injEq,getD_map,h3])
  (repeat (refine And.intro (by omega) ?_))
  refine R.retC (vc:=True) ?_ trivial
  (simp only [go_sem,Tryz.results228])
  try rfl
theorem _root_.Go.Abs.RY.callClo {C:Cx} {all:Array Oper} {tail:List Oper} {o:Oper} {l:List Oper} {k:List KI} {s:St} {t:Nat} {f:FuncId} {ds:List PD} {xs:Array Operand} {ts:Array TypeId} {args:List SV} {rs:List PD} {b:Bool} (hf:FnC C.P f (args++ds.map fun d=>.ref d 0) rs) (ho:o.op = .call ⟨.value (.tmp t),xs,ts⟩) (ht:evO s (.tmp t) = .pd (.clo f ds)) (hg:o.guard=none) (hc:CoL C.P s.var s.row (xs.toList.map (evO s)) args b)
  (hl:b=true→plain rs=true) (hd:dstP s o) (next:RY C all tail k l (s.put o.dst (retSV rs))):RY C all tail k (o::l) s:=⟨_,.inl ⟨hg,.callClo t f ds xs ts args rs b ho ht hc hf hl⟩,dstP_ok hd,next⟩
def selT (row:List V) (t:Tst):Bool:=testV (sideX row t.left) t.op (sideX row t.right) t.add
theorem selC2_ok (t:Tst) (a:Ans) (h1:sideOk a.row t.left) (h2:sideOk a.row t.right):FnC Tryz.prog 229 [.pd (tst t),.ref (.clo 228 [ans a]) 0] [B (!selT a.row t)]:=by
 refine FnC.mk Tryz.func229 rfl ent229 (by simp [Tryz.ntmps229]) fun w G=>?_
 (refine ev8 ?_; simp only [go_sem])
 refine R.drawE 12 80 mixed (by kernel_rfl) ?_; simp only [go_sem]
 refine RY.callClo (ds:=[ans a]) (args:=[.pd (side t.left)]) (selS_ok t.left a h1) rfl rfl rfl (.cons (.pd _) .nil) (by simp [plain,PD.plain]) (by (simp only [go_sem])) ?_
 (refine evY_ok 80 _ _ ?_; simp only [go_sem])
 refine RY.callClo (ds:=[ans a]) (args:=[.pd (side t.right)]) (selS_ok t.right a h2) rfl rfl rfl (.cons (.pd _) .nil) (by simp [plain,PD.plain]) (by (simp only [go_sem])) ?_
 (refine evY_ok 80 _ _ ?_; simp only [go_sem])
 refine R.callC (test_ok (sideX a.row t.left) t.op (sideX a.row t.right) t.add) rfl rfl (.cons (.pd _) (.cons (.pd _) (.cons (.pd _) (.cons (.pd _) (.nil))))) (by simp [plain,PD.plain]) (by simp only [go_sem]) ?_
 (refine ev8 ?_; simp only [go_sem])
 refine R.retC (vc:=True) ?_ trivial
 rfl
theorem Co.clo2 {P:Program} {var:Nat→Option (List SV)} {row:Nat→Option Row} {f g t u:Nat} (d:PD) {F:List PD→PD→Prop} (hv:var t=some [.clo g [u]]) (hu:var u=some (d.cells.map .pd)) (he:Ent P f) (h:∀ es r,F es r→FnC P f (es.map .pd++[.ref (.clo g [d]) 0]) [r]):Co P var row (.clo f [t]) (.fn F) true:=
 .clo f [t] [.clo g [d]] F (.clo f [t] [.clo g [d]] rfl (fun _=>[.clo g [u]]) (fun i hi=>by
  obtain rfl:i=0:=by simpa using hi
  exact ⟨hv,by simp [PD.width]⟩) (fun i j hi hj=>by
  obtain rfl:i=0:=by simpa using hi
  obtain rfl:j=0:=by simpa [PD.width] using hj
  refine .clo g [u] [d] rfl (fun _=>d.cells.map .pd) (fun i hi=>?_) (fun i j hi hj=>?_)
  ·obtain rfl:i=0:=by simpa using hi
   exact ⟨hu,by simp [PD.length_cells]⟩
  ·obtain rfl:i=0:=by simpa using hi
   have hj:j<d.width:=hj
   have e:(d.cells.map SV.pd).getD j .dead = .pd (d.cell j):=by
    rw [← PD.getD_cells d j hj]
    have:j<d.cells.length:=by rw [PD.length_cells]; exact hj
    simp [this]
   show Cv var row ((d.cells.map SV.pd).getD j .dead) (d.cell j)
   rw [e]; exact .pd _)) he h
def selB (p:Plan) (row:List V):Bool:=p.tests.any fun t=>!selT row t
def selG (p:Plan) (q:ByteArray × Ans):AddL:=if selB p q.2.row then [] else add1 q
theorem wsel_ok (p:Plan) (facts:List Fct) (r1:Nat) (m1:AM) (n1:(m1.map (·.1)).Nodup) (hs:∀ q∈m1,∀ t∈p.tests,sideOk q.2.row t.left∧sideOk q.2.row t.right) (ho:okD (m1.flatMap (selG p))):
  FnM Tryz.prog 151 [.pd (qry p facts [r1])] [(r1,encM m1)] [] (isAdds (m1.flatMap (selG p))):=by
 refine FnM.mk Tryz.func151 rfl ent151 (by simp [Tryz.ntmps151]) fun w G=>?_
 (refine ev8 ?_; simp only [go_sem])
 refine R.makeMap rfl rfl rfl (by (simp only [go_sem])) fun r hr1 hr0=>?_
 have e1:=ne_both (map_ne (q:=r1) (x:=.map (encM m1)) hr0 (by simp [St.map,St.startM,lk]))
 clear hr0
 (refine ev8 ?_; simp only [go_sem,Int.toNat_zero])
 (repeat (refine And.intro (by omega) ?_))
 refine R.rangeA m1 rfl rfl rfl (by (simp only [go_sem])) rfl (by simp [St.map,lk,e1]) (by show (mpT Tryz.prog 95).isSome=true; rw [mp95]; rfl) fun b hb1 hb2=>?_
 have e4:=ne_both (map_ne (q:=r) (x:=.map []) hb2 (by simp [St.map,lk]))
 have e5:=ne_both (map_ne (q:=r1) (x:=.map (encM m1)) hb2 (by simp [St.map,lk,e1]))
 clear hb1 hb2
 (refine ev8 ?_; simp only [go_sem])
 refine R.famU (fun (y:AM × AM × AddL × Option Value) s=>{ St.lp [1,2,3,12,30] [] [1] [] [] [] s with maps:=[(b,.it r1 (y.2.1.map keyS) y.2.2.2),(r,.map (encM (runA y.2.2.1))),(r1,.map (encM m1))] }) (fun (y:AM × AM × AddL × Option Value)=>(y.1++y.2.1).Perm m1∧y.2.2.1.Perm ([]++y.1.flatMap (selG p))) (fun (y:AM × AM × AddL × Option Value)=>y.2.1.length) (([],m1,[],none)) (⟨.refl _,by simp⟩) (by (simp only [go_sem,encA_nil,e1,e4,e5]); all_goals (and_intros <;> first | rfl | simp)) ?_
 rintro ⟨done,left,L',cur⟩ ⟨hp,hL'⟩
 simp only at hp hL'
 (refine ev8 ?_; simp only [go_sem])
 refine R.nextA (m:=m1) (r:=r1) (cur:=cur) (left:=left) (done:=done) n1 hp rfl rfl (dstP_ok (by (simp only [go_sem]))) rfl (by simp [St.map,lk]) (by simp [St.map,lk,e1,e4,e5]) (fun hz0=>?_) (fun l1 q l2 hz0 hpm hp2=>?_)
 ·subst hz0
  have hL2:L'.Perm (m1.flatMap (selG p)):=by refine hL'.trans ?_; exact List.Perm.flatMap_right _ (by simpa using hp)
  (refine evL8 ?_; simp only [go_sem,↓reduceIte,ite_self])
  refine R.retM (vc:=True) [(r,encM (runA L'))] rfl trivial ⟨r,L',rfl,rfl,hL2⟩ (fun r' m' h=>?_)
  simp only [lk] at h
  split at h
  ·rename_i e; subst e; cases h; exact ⟨by simp [St.map,lk,e4],.inr hr1⟩
  ·cases h
 ·(refine evL8 ?_; simp only [go_sem,↓reduceIte,ite_self])
  refine R.entryA (p:=q) (left:=(l1++l2).map keyS) (r:=r1) n1 hpm rfl rfl (dstP_ok (by (simp only [go_sem]))) rfl (by simp [St.map,lk]) (by simp [St.map,lk,up,e1,e4,e5]) ?_
  (refine ev8 ?_; simp only [go_sem])
  have hcl:FnC Tryz.prog 189 [.pd (tsts p.tests),.fn (decides tst (fun t=>!selT q.2.row t) p.tests)] [B (selB p q.2.row)]:=containsFunc_tsts_ok _ _
  refine R.callC (hcl) rfl rfl (.cons (.pd _) (.cons (Co.clo2 (ans q.2) rfl rfl ent229 (by rintro es r ⟨x,hx,rfl,rfl⟩; have:=hs q hpm x hx; exact selC2_ok x q.2 this.1 this.2)) (.nil))) (by simp [plain,PD.plain]) (by simp only [go_sem]) ?_
  (refine ev8 ?_; simp only [go_sem])
  have hstep:=adds_step hL' q
  have hpre:=okD_step (A:=[]) (g:=selG p) ho hp2 hL'
  refine ⟨fun h2=>?_,fun h2=>?_⟩
  ·have h2:selB p q.2.row=false:=by simpa using h2
   have hg:selG p q=add1 q:=by simp [selG,h2]
   rw [hg] at hstep hpre
   (refine ev8 ?_; simp only [go_sem])
   refine R.callM (by rfl) 60 (by rfl) rfl rfl (dstP_ok (by (simp only [go_sem]))) (.cons (.pd _) (.cons (.pd _) (.cons (.pd _) .nil))) (addA_ok r L' (q.2.row,q.2.ways) hpre) (fun r' m' h=>?_) (fun r' h=>?_) ?_
   ·simp only [lk] at h
    split at h
    ·rename_i e; subst e; cases h; simp [St.map,St.put,St.newVar,lk,up,e4]
    ·cases h
   ·simp only [List.mem_singleton] at h; subst h; exact ⟨by simp [lk],.inl hr1⟩
   rintro res M' ⟨rfl,rfl⟩ hh; clear hh
   simp only [Behind]
   (refine ev8 ?_; simp only [go_sem,List.filter_cons,e1,e4,e5])
   refine R.famEnd (done++[q],l1++l2,L' ++ add1 q,some (keyS q)) ⟨hp2,hstep⟩ (by (subst hz0; show _<_; simp <;> omega)) (by (simp only [go_sem,e1,e4,e5]); all_goals (and_intros <;> rfl))
  ·have h2:selB p q.2.row=true:=by simpa using h2
   have hg:selG p q=[]:=by simp [selG,h2]
   rw [hg,List.append_nil] at hstep
   (refine ev8 ?_; simp only [go_sem])
   refine R.famEnd (done++[q],l1++l2,L',some (keyS q)) ⟨hp2,hstep⟩ (by (subst hz0; show _<_; simp <;> omega)) (by (simp only [go_sem,e1,e4,e5]); all_goals (and_intros <;> rfl))
end Go.Proofs.YtjbhhddfaohdnaaGreatDoor
end
section
namespace Go.Proofs.YtjbhhddfaohdnaaGreatDoor
open Go Go.Abs Go.Proofs
set_option maxRecDepth 10000
set_option maxHeartbeats 4000000
theorem ent152:Ent Tryz.prog 152:=fun _ _=>by kernel_rfl
def projR (row:List V) (cols:List Int):List V:=cols.map fun c=>row.getD c.toNat V.zero
def projG (p:Plan) (q:ByteArray × Ans):AddL:=[(projR q.2.row p.cols,q.2.ways)]
theorem wproject_ok (p:Plan) (facts:List Fct) (r1:Nat) (m1:AM) (n1:(m1.map (·.1)).Nodup) (hc:p.cols.length≤100000000) (hs:∀ q∈m1,∀ c∈p.cols,0≤c∧c.toNat<q.2.row.length) (ho:okD (m1.flatMap (projG p))):
  FnM Tryz.prog 152 [.pd (qry p facts [r1])] [(r1,encM m1)] [] (isAdds (m1.flatMap (projG p))):=by
 refine FnM.mk Tryz.func152 rfl ent152 (by simp [Tryz.ntmps152]) fun w G=>?_
 (refine ev8 ?_; simp only [go_sem])
 refine R.makeMap rfl rfl rfl (by (simp only [go_sem])) fun r hr1 hr0=>?_
 have e1:=ne_both (map_ne (q:=r1) (x:=.map (encM m1)) hr0 (by simp [St.map,St.startM,lk]))
 clear hr0
 (refine ev8 ?_; simp only [go_sem,Int.toNat_zero])
 (repeat (refine And.intro (by omega) ?_))
 refine R.rangeA m1 rfl rfl rfl (by (simp only [go_sem])) rfl (by simp [St.map,lk,e1]) (by show (mpT Tryz.prog 95).isSome=true; rw [mp95]; rfl) fun b hb1 hb2=>?_
 have e4:=ne_both (map_ne (q:=r) (x:=.map []) hb2 (by simp [St.map,lk]))
 have e5:=ne_both (map_ne (q:=r1) (x:=.map (encM m1)) hb2 (by simp [St.map,lk,e1]))
 clear hb1 hb2
 (refine ev8 ?_; simp only [go_sem])
 refine R.famU (fun (y:AM × AM × AddL × Option Value) s=>{ St.lp [1,2,3,14,42] [] [1] [] [] [] s with maps:=[(b,.it r1 (y.2.1.map keyS) y.2.2.2),(r,.map (encM (runA y.2.2.1))),(r1,.map (encM m1))] }) (fun (y:AM × AM × AddL × Option Value)=>(y.1++y.2.1).Perm m1∧y.2.2.1.Perm ([]++y.1.flatMap (projG p))) (fun (y:AM × AM × AddL × Option Value)=>y.2.1.length) (([],m1,[],none)) (⟨.refl _,by simp⟩) (by (simp only [go_sem,encA_nil,e1,e4,e5]); all_goals (and_intros <;> first | rfl | simp)) ?_
 rintro ⟨done,left,L',cur⟩ ⟨hp,hL'⟩
 simp only at hp hL'
 (refine ev8 ?_; simp only [go_sem])
 refine R.nextA (m:=m1) (r:=r1) (cur:=cur) (left:=left) (done:=done) n1 hp rfl rfl (dstP_ok (by (simp only [go_sem]))) rfl (by simp [St.map,lk]) (by simp [St.map,lk,e1,e4,e5]) (fun hz0=>?_) (fun l1 q l2 hz0 hpm hp2=>?_)
 ·subst hz0
  have hL2:L'.Perm (m1.flatMap (projG p)):=by refine hL'.trans ?_; exact List.Perm.flatMap_right _ (by simpa using hp)
  (refine evL8 ?_; simp only [go_sem,↓reduceIte,ite_self])
  refine R.retM (vc:=True) [(r,encM (runA L'))] rfl trivial ⟨r,L',rfl,rfl,hL2⟩ (fun r' m' h=>?_)
  simp only [lk] at h
  split at h
  ·rename_i e; subst e; cases h; exact ⟨by simp [St.map,lk,e4],.inr hr1⟩
  ·cases h
 ·(refine evL8 ?_; simp only [go_sem,↓reduceIte,ite_self])
  refine R.entryA (p:=q) (left:=(l1++l2).map keyS) (r:=r1) n1 hpm rfl rfl (dstP_ok (by (simp only [go_sem]))) rfl (by simp [St.map,lk]) (by simp [St.map,lk,up,e1,e4,e5]) ?_
  (refine ev8 ?_; simp only [go_sem])
  have hsq:=hs q hpm
  refine R.famU (fun (k:Nat) s=>St.lp [1,2,3,5,14,22,23,37,38,39,40,42] [(24,.pd (I k)),(6,.own 1019)] [1,5] [] [] [(1019,⟨76,3,(projR q.2.row (p.cols.take k)).map val⟩)] s) (fun (k:Nat)=>k≤p.cols.length) (fun (k:Nat)=>p.cols.length - k) (0) (by omega) (by (simp only [go_sem,e1,e4,e5]); all_goals (and_intros <;> rfl)) ?_
  rintro k hk
  (refine evC8 ?_; simp only [go_sem,List.cons.injEq,SV.pd.injEq,ite_self])
  refine ⟨fun h=>?_,fun h=>?_⟩
  ·have hlt:k<p.cols.length:=by simpa using h
   obtain ⟨h2,h3⟩:=hsq p.cols[k] (List.getElem_mem hlt)
   have hcast:((p.cols[k].toNat:Nat):Int)=p.cols[k]:=Int.toNat_of_nonneg h2
   have hsn:projR q.2.row (p.cols.take (k+1))=projR q.2.row (p.cols.take k)++[q.2.row[p.cols[k].toNat]]:=by
    unfold projR; rw [List.take_succ_eq_append_getElem hlt,List.map_append]; simp [h3]
   have hln:(projR q.2.row (p.cols.take k)).length=k:=by simp [projR]; omega
   (refine evC8 ?_; simp only [go_sem,List.cons.injEq,SV.pd.injEq,getD_map,hlt,h3])
   (repeat (refine And.intro (by omega) ?_))
   refine R.append1 100000000 32 rfl rfl (by (simp only [go_sem])) rfl rfl rfl rfl sl37 rfl sz76 (by simp) (congrArg (Option.map List.length) ze76) rfl by76 (by simp [hln]; omega) (by decide) (by decide) ?_
   (refine ev8 ?_; simp only [go_sem,wrapN (k:=k) (by omega)])
   refine R.famEnd (k+1) (by omega) (by show _<_; omega) (by (simp only [go_sem,e1,e4,e5,hsn,List.map_append,List.map_cons,List.map_nil]); all_goals (and_intros <;> rfl))
  ·have hge:¬ k<p.cols.length:=by simpa using h
   have hke:p.cols.take k=p.cols:=List.take_of_length_le (by omega)
   rw [hke]
   (refine ev8 ?_; simp only [go_sem])
   have hstep:=adds_step hL' q
   have hpre:=okD_step (A:=[]) (g:=projG p) ho hp2 hL'
   simp only [projG] at hstep hpre
   refine R.frz 1019 rfl rfl ?_
   (simp only [go_sem])
   refine R.callM (by rfl) 60 (by rfl) rfl rfl (dstP_ok (by (simp only [go_sem]))) (.cons (.pd _) (.cons (.pd _) (.cons (.pd _) .nil))) (addA_ok r L' (projR q.2.row p.cols,q.2.ways) hpre) (fun r' m' h=>?_) (fun r' h=>?_) ?_
   ·simp only [lk] at h
    split at h
    ·rename_i e; subst e; cases h; simp [St.map,St.put,St.newVar,lk,up,e4]
    ·cases h
   ·simp only [List.mem_singleton] at h; subst h; exact ⟨by simp [lk],.inl hr1⟩
   rintro res M' ⟨rfl,rfl⟩ hh; clear hh
   simp only [Behind]
   (refine ev8 ?_; simp only [go_sem,List.filter_cons,e1,e4,e5])
   refine R.famEnd (done++[q],l1++l2,L' ++ [(projR q.2.row p.cols,q.2.ways)],some (keyS q)) ⟨hp2,hstep⟩ (by (subst hz0; show _<_; simp <;> omega)) (by (simp only [go_sem,e1,e4,e5]); all_goals (and_intros <;> rfl))
end Go.Proofs.YtjbhhddfaohdnaaGreatDoor
end
