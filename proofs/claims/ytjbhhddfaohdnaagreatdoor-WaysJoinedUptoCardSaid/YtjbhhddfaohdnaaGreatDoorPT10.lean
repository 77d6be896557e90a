/- A part of the proof: T10. -/
import Derived.Test.YtjbhhddfaohdnaaGreatDoorPT9
import Derived.Test.YtjbhhddfaohdnaaGreatDoorPSortL
set_option linter.all false
set_option linter.deprecated false
namespace Go.Proofs.YtjbhhddfaohdnaaGreatDoor
open Go Go.Abs
set_option maxRecDepth 10000
theorem ent17:Ent Tryz.prog 17:=fun _ _=>by kernel_rfl
theorem ent55:Ent Tryz.prog 55:=fun _ _=>by kernel_rfl
theorem Order.swo {α:Type} {c:α→α→Int} (h:Order c):Go.Sort.SWO (ltOf c) where
 irrefl x:=by have:=(h.eq x x).2 rfl; simp [ltOf,this]
 trans x y z h1 h2:=by simp [ltOf] at *; exact h.trans x y z h1 h2
 ntrans x y z h1 h2:=by
  simp [ltOf] at *
  by_cases hc:c x z<0
  ·exfalso
   by_cases h0:c x y=0
   ·have:=(h.eq x y).1 h0; subst this; omega
   ·have:c y x<0:=(h.flip y x).2 (by omega)
    have:=h.trans y x z this hc; omega
  ·omega
theorem keepW_snoc (w:W):∀ (l out:List W),keepW out (l++[w])=if (keepW out l).any (partW · w) then keepW out l else keepW out l++[w]
 | [],out=>by simp [keepW]
 | x::l,out=>by simp only [List.cons_append,keepW]; exact keepW_snoc w l _
theorem norms_snoc (l:List W) (w:W):norms (l++[w])=if consW (normW w) then norms l++[normW w] else norms l:=by
 unfold norms
 rw [List.map_append,List.filter_append]
 by_cases h:consW (normW w)=true <;> simp [h]
theorem minW_of {l l' l'':List W} (hp:l'.Perm (norms l)) (hs:l'.Pairwise fun x y=>¬ ordW y x<0) (hp2:l''.Perm (keepW [] l')) (hs2:l''.Pairwise fun x y=>¬ cmpW y x<0):l''=minW l:=by
 obtain ⟨hn,hm⟩:=keepW_spec l' [] [] (fun x hx=>norms_norm (hp.mem_iff.1 (by simpa using hx))) (by simpa using hs) (by simp) .nil
 have hn2:l''.Nodup:=hp2.nodup_iff.2 hn
 refine minW_unique ?_ (fun x=>?_)
 ·refine (hs2.and hn2).imp ?_
  rintro a b ⟨h1,h2⟩
  have h3:cmpW a b≠0:=fun e=>h2 ((order_cmpW.eq a b).1 e)
  have h4:¬ 0<cmpW a b:=fun e=>h1 ((order_cmpW.flip b a).2 e)
  omega
 ·rw [hp2.mem_iff,hm x]
  simp only [List.nil_append]
  constructor
  ·rintro ⟨h1,h2⟩; exact ⟨hp.mem_iff.1 h1,fun y hy=>h2 y (hp.mem_iff.2 hy)⟩
  ·rintro ⟨h1,h2⟩; exact ⟨hp.mem_iff.2 h1,fun y hy=>h2 y (hp.mem_iff.1 hy)⟩
def okW (w:W):Prop:=w.pos.length≤1000000000∧w.neg.length≤1000000000
def okL (l:List W):Prop:=l.length≤1000000000000∧∀ w∈l,okW w
theorem setI_len (l:List Int):(setI l).length≤l.length:=by
 rw [← setI_eq]
 have:=Lib.compact_length_le (l.mergeSort fun x y=>decide (x≤y))
 rw [List.length_mergeSort] at this; exact this
theorem okW_norm {w:W} (h:okW w):okW (normW w):=by
 have h1:=setI_len w.pos; have h2:=setI_len w.neg
 unfold okW at *; simp only [normW]; omega
theorem okW_norms {l:List W} (h:okL l) {x:W} (hx:x∈norms l):okW x:=by
 simp only [norms,List.mem_filter,List.mem_map] at hx
 obtain ⟨⟨y,hy,rfl⟩,_⟩:=hx
 exact okW_norm (h.2 y hy)
theorem norms_len (l:List W):(norms l).length≤l.length:=by
 unfold norms; exact Nat.le_trans (List.length_filter_le _ _) (by simp)
theorem keepW_len:∀ (l out:List W),(keepW out l).length≤out.length+l.length
 | [],out=>by simp [keepW]
 | w::l,out=>by
  simp only [keepW]
  refine Nat.le_trans (keepW_len l _) ?_
  split <;> simp <;> omega
theorem _root_.Go.Abs.R.append1 {C:Cx} {s:St} {all:Array Oper} {l:List Oper} {k:List KI} {o:Oper} {x y:Operand} {t e:TypeId} {i:Nat} {r:Row} {d:PD} (n B:Nat) (ho:o.op = .call ⟨.builtin .append,#[x,y],#[t,t]⟩) (hg:o.guard=none) (hd:dstP s o) (hx:evO s x = .own i) (hr:s.row i=some r) (hr0:C.rb0 i=none)
  (hy:evO s y = .pd (.list r.sz [d])) (he:slT C.P t=some e) (hre:r.e=e) (hz:szT C.P e=r.sz) (h0:r.sz≠0) (hzero:(zeroT C.P e).map List.length=some r.sz) (hw:d.width=r.sz) (hB:byT C.P e=B) (hn:r.ds.length+1≤n) (hb:n * B≤140737488355328) (hm:n≤9223372036854775807)
  (next:R C (.ops all l::k) ((s.newRow i ⟨e,r.sz,r.ds++[d]⟩).put o.dst (.own i))):R C (.ops all (o::l)::k) s:=by
 refine R.append ho hg (dstP_ok hd) hx hr hr0 (es:=[d]) (by rw [hy]; rfl) he hre hz h0 hzero rfl (fun j hj=>?_) ?_ ?_ next
 ·have:j=0:=by simpa using hj
  subst this; exact hw
 ·rw [hB]; exact Nat.le_trans (Nat.mul_le_mul_right B (by simpa using hn)) hb
 ·simp [maxLen]; omega
theorem minimal_ok (l:List W) (hl:okL l):FnW Tryz.prog 17 [.pd (ways l)] [ways (minW l)]:=by
 have hl1:=hl.1
 refine FnW.mk Tryz.func17 rfl ent17 (by simp [Tryz.ntmps17]) fun w G=>?_
 (refine ev8 ?_; simp only [go_sem])
 refine R.mkOwn 3 3 53 2 (by (simp only [go_sem])) rfl rfl ?_
 (simp only [go_sem])
 refine R.famU (fun (k:Nat) s=>St.lp [0,2,6,7,9,10,11,12,34,35,37,38,39,40,41,42,43,44,45,46,47,48,49,50,51,52,53,55] [(13,.pd (I k)),(3,.own 3)] [6,9] [] [] [(3,⟨53,2,(norms (l.take k)).map way⟩)] s) (fun (k:Nat)=>k≤l.length) (fun (k:Nat)=>l.length - k) (0) (by omega) (by (simp only [go_sem]); all_goals (and_intros <;> rfl)) ?_
 rintro k hk
 (refine ev8 ?_; simp only [go_sem])
 refine ⟨fun h=>?_,fun h=>?_⟩
 ·have hlt:k<l.length:=by simpa using h
  have hw:=hl.2 l[k] (List.getElem_mem hlt)
  (refine ev8 ?_; simp only [go_sem,getD_map,hlt])
  refine ⟨by omega,?_⟩
  refine R.drawE 5 80 mixed (by kernel_rfl) ?_; simp only [go_sem]
  refine RY.callW (by rfl) (set_ok l[k].pos (by have:=hw.1; omega)) rfl rfl (.cons (.pd _) (.nil)) (by simp [plain,PD.plain]) (by simp only [go_sem]) ?_
  (refine evY_ok 80 _ _ ?_; simp only [go_sem])
  (refine ev8 ?_; simp only [go_sem])
  refine R.callW (by rfl) (set_ok l[k].neg (by have:=hw.2; omega)) rfl rfl (.cons (.pd _) (.nil)) (by simp [plain,PD.plain]) (by simp only [go_sem]) ?_
  (refine ev8 ?_; simp only [go_sem])
  have hcl:FnC Tryz.prog 51 [.pd (ints (setI l[k].pos)),.fn (decides I (fun x=>(setI l[k].neg).contains x) (setI l[k].pos))] [B ((setI l[k].pos).any fun x=>(setI l[k].neg).contains x)]:=containsFunc_ints_ok _ _
  refine R.callC (hcl) rfl rfl (.cons (.pd _) (.cons (Co.clo1 (way (normW l[k])) rfl ent52 (by rintro es r ⟨x,_,rfl,rfl⟩; exact clash_ok (normW l[k]) x (setI_sorted _) (by have:=setI_len l[k].neg; have:=hw.2; simp only [normW]; omega))) (.nil))) (by simp [plain,PD.plain]) (by simp only [go_sem]) ?_
  (refine ev8 ?_; simp only [go_sem])
  have hcons:consW (normW l[k]) = !((setI l[k].pos).any fun x=>(setI l[k].neg).contains x):=rfl
  have hsn:=norms_snoc (l.take k) l[k]
  rw [← List.take_succ_eq_append_getElem hlt,hcons] at hsn
  have hnl:(norms (l.take k)).length≤k:=Nat.le_trans (norms_len _) (by simp; omega)
  refine ⟨fun h2=>?_,fun h2=>?_⟩
  ·rw [if_pos (by rw [h2]; rfl)] at hsn
   (refine ev8 ?_; simp only [go_sem])
   refine R.append1 1000000000000 48 rfl rfl (by (simp only [go_sem])) rfl rfl rfl rfl sl32 rfl sz53 (by simp) (congrArg (Option.map List.length) ze53) rfl by53 (by simp; omega) (by decide) (by decide) ?_
   (refine ev8 ?_; simp only [go_sem,wrapN (k:=k) (by omega)])
   refine R.famEnd (k+1) (by omega) (by show _<_; omega) (by (simp only [go_sem,hsn,List.map_append]); all_goals (and_intros <;> rfl))
  ·rw [if_neg (by rw [h2]; simp)] at hsn
   (refine ev8 ?_; simp only [go_sem,wrapN (k:=k) (by omega)])
   refine R.famEnd (k+1) (by omega) (by show _<_; omega) (by (simp only [go_sem,hsn]); all_goals (and_intros <;> rfl))
 ·have hge:¬ k<l.length:=by simpa using h
  have hke:l.take k=l:=List.take_of_length_le (by omega)
  (refine ev8 ?_; simp only [go_sem,hke])
  refine R.frzV 6 SZF rfl (fun _ h=>h) rfl ?_
  (simp only [go_sem,St.frzV,SV.frzV])
  have hnl:=norms_len l
  refine R.sortF Tryz.sortW way 2 ordW (norms l) rfl ent55 rfl rfl (by (simp only [go_sem])) rfl rfl (by decide) ag53 kn53 sz53 (fun _=>rfl) (fun _=>rfl) order_ordW.swo (by omega)
   (.clo 56 [SZF] ent56 (by
    rintro es r ⟨x,hx,y,hy,rfl,rfl⟩
    have h1:=okW_norms hl hx; have h2:=okW_norms hl hy
    exact order_ok x y (by unfold okW at h1; omega) (by unfold okW at h2; omega))) ?_
  intro l' hp hs
  have hl':l'.length=(norms l).length:=hp.length_eq
  (refine ev8 ?_; simp only [go_sem])
  refine R.mkOwn 7 7 53 2 (by (simp only [go_sem])) rfl rfl ?_
  (simp only [go_sem])
  (refine ev8 ?_; simp only [go_sem])
  refine R.famU (fun (k:Nat) s=>St.lp [0,2,3,5,6,11,12,13,14,15,16,17,18,19,20,21,22,23,24,25,26,27,28,29,30,31,32,33,34,35,37,38,53,55] [(39,.pd (I k)),(7,.own 7)] [5,6] [] [3] [(7,⟨53,2,(keepW [] (l'.take k)).map way⟩)] s) (fun (k:Nat)=>k≤l'.length) (fun (k:Nat)=>l'.length - k) (0) (by omega) (by (simp only [go_sem]); all_goals (and_intros <;> rfl)) ?_
  rintro k hk
  (refine ev8 ?_; simp only [go_sem])
  refine ⟨fun h=>?_,fun h=>?_⟩
  ·have hlt:k<l'.length:=by simpa using h
   have hmem:l'[k]∈norms l:=hp.mem_iff.1 (List.getElem_mem hlt)
   have hw:=okW_norms hl hmem
   have hkl:=keepW_len (l'.take k) []
   have hsn:=keepW_snoc l'[k] (l'.take k) []
   rw [← List.take_succ_eq_append_getElem hlt] at hsn
   (refine ev8 ?_; simp only [go_sem,getD_map,hlt])
   (repeat (refine And.intro (by omega) ?_))
   have hcl:FnC Tryz.prog 60 [.pd (ways (keepW [] (l'.take k))),.fn (decides way (partW · l'[k]) (keepW [] (l'.take k)))] [B ((keepW [] (l'.take k)).any (partW · l'[k]))]:=containsFunc_ways_ok _ _
   refine R.callC (hcl) rfl rfl (.cons (.own 7 ⟨53,2,(keepW [] (l'.take k)).map way⟩ rfl) (.cons (Co.clo1 (way l'[k]) rfl ent59 (by rintro es r ⟨x,_,rfl,rfl⟩; exact part_ok x l'[k] (norms_norm hmem) (by unfold okW at hw; omega))) (.nil))) (by simp [plain,PD.plain]) (by simp only [go_sem]) ?_
   (refine ev8 ?_; simp only [go_sem])
   refine ⟨fun h2=>?_,fun h2=>?_⟩
   ·rw [if_neg (by simpa using h2)] at hsn
    (refine ev8 ?_; simp only [go_sem])
    refine R.append1 1000000000000 48 rfl rfl (by (simp only [go_sem])) rfl rfl rfl rfl sl32 rfl sz53 (by simp) (congrArg (Option.map List.length) ze53) rfl by53 (by simp at hkl ⊢; omega) (by decide) (by decide) ?_
    (refine ev8 ?_; simp only [go_sem,wrapN (k:=k) (by omega)])
    refine R.famEnd (k+1) (by omega) (by show _<_; omega) (by (simp only [go_sem,hsn,List.map_append]); all_goals (and_intros <;> rfl))
   ·rw [if_pos (by simpa using h2)] at hsn
    (refine ev8 ?_; simp only [go_sem,wrapN (k:=k) (by omega)])
    refine R.famEnd (k+1) (by omega) (by show _<_; omega) (by (simp only [go_sem,hsn]); all_goals (and_intros <;> rfl))
  ·have hge:¬ k<l'.length:=by simpa using h
   have hke:l'.take k=l':=List.take_of_length_le (by omega)
   have hkl:=keepW_len l' []
   (refine ev8 ?_; simp only [go_sem,hke])
   refine R.sortF Tryz.sortW way 2 cmpW (keepW [] l') rfl ent55 rfl rfl (by (simp only [go_sem])) rfl rfl (by decide) ag53 kn53 sz53 (fun _=>rfl) (fun _=>rfl) order_cmpW.swo (by simp at hkl; omega)
    (.func 58 ent58 (by
     rintro es r ⟨x,hx,y,hy,rfl,rfl⟩
     exact compareW_ok x y)) ?_
   intro l'' hp2 hs2
   (refine ev8 ?_; simp only [go_sem])
   refine R.frz 7 rfl rfl ?_
   (simp only [go_sem])
   refine R.retW (vc:=True) ?_ trivial
   rw [← minW_of hp hs hp2 hs2]; rfl
end Go.Proofs.YtjbhhddfaohdnaaGreatDoor
