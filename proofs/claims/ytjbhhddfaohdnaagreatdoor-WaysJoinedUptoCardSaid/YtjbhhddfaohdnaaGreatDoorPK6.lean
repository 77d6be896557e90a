/- A part of the proof: K7, K6. -/
import Derived.Test.YtjbhhddfaohdnaaGreatDoorPK5
set_option linter.all false
set_option linter.deprecated false
section
namespace Go.Proofs.YtjbhhddfaohdnaaGreatDoor
open Go Go.Abs Go.Proofs
set_option maxRecDepth 10000
set_option maxHeartbeats 4000000
theorem ent89:Ent Tryz.prog 89:=fun _ _=>by kernel_rfl
def close1 (p:ByteArray × Ans):Option (ByteArray × Ans):=if (minW p.2.ways).length=0 then none else some (p.1,⟨p.2.row,minW p.2.ways⟩)
def closeA (m:AM):AM:=m.filterMap close1
open Classical in
noncomputable def closeU (D:List ByteArray) (m:AM):AM:=m.filterMap fun (p:ByteArray × Ans)=>if p.1∈D then close1 p else some p
theorem closeU_nil (m:AM):closeU [] m=m:=by simp [closeU]
theorem closeU_all {D:List ByteArray} {m:AM} (h:∀ p∈m,p.1∈D):closeU D m=closeA m:=by
 unfold closeU closeA
 induction m with
 | nil=>rfl
 | cons p m ih=>simp only [List.filterMap_cons,if_pos (h p (List.mem_cons_self ..)),ih (fun q hq=>h q (List.mem_cons_of_mem _ hq))]
theorem closeU_keys (D:List ByteArray):∀ (m:AM),((closeU D m).map (·.1)).Sublist (m.map (·.1))
 | []=>by simp [closeU]
 | p::m=>by
  have ih:=closeU_keys D m
  unfold closeU at ih ⊢
  simp only [List.filterMap_cons]
  by_cases h:p.1∈D
  ·simp only [if_pos h,close1]
   split
   ·rename_i e; simp only [List.map_cons]; exact ih.cons _
   ·rename_i q e
    split at e
    ·cases e
    ·cases e; simp only [List.map_cons]; exact ih.cons_cons _
  ·simp only [if_neg h,List.map_cons]; exact ih.cons_cons _
theorem closeU_nodup {D:List ByteArray} {m:AM} (h:(m.map (·.1)).Nodup):((closeU D m).map (·.1)).Nodup:=(closeU_keys D m).nodup h
theorem closeU_mem {D:List ByteArray} {m:AM} {p:ByteArray × Ans} (hp:p∈m) (h:p.1∉D):p∈closeU D m:=List.mem_filterMap.2 ⟨p,hp,by rw [if_neg h]⟩
theorem closeU_app (D:List ByteArray) (a c:AM):closeU D (a++c)=closeU D a++closeU D c:=by simp [closeU]
theorem closeU_other {D:List ByteArray} {n:ByteArray} {a:AM} (h:∀ p∈a,p.1≠n):closeU (D++[n]) a=closeU D a:=by
 induction a with
 | nil=>rfl
 | cons p a ih=>
  have e:p.1∈D++[n]↔p.1∈D:=by simp [h p (List.mem_cons_self ..)]
  have ih:=ih fun q hq=>h q (List.mem_cons_of_mem _ hq)
  unfold closeU at ih ⊢
  simp only [List.filterMap_cons,ih]
  by_cases hD:p.1∈D
  ·rw [if_pos hD,if_pos (e.2 hD)]
  ·rw [if_neg hD,if_neg (fun h2=>hD (e.1 h2))]
theorem closeU_step {D:List ByteArray} {a c:AM} {p:ByteArray × Ans} (hn:((a++p::c).map (·.1)).Nodup) (h:p.1∉D):
  closeU D (a++p::c)=closeU D a++p::closeU D c∧closeU (D++[p.1]) (a++p::c)=closeU D a++((close1 p).toList++closeU D c):=by
 simp only [List.map_append,List.map_cons] at hn
 have hn:=List.nodup_append.1 hn
 have ha:∀ q∈a,q.1≠p.1:=fun q hq e=>hn.2.2 q.1 (List.mem_map.2 ⟨q,hq,rfl⟩) p.1 (List.mem_cons_self ..) e
 have hc:∀ q∈c,q.1≠p.1:=fun q hq e=>(List.nodup_cons.1 hn.2.1).1 (e ▸ List.mem_map.2 ⟨q,hq,rfl⟩)
 constructor
 ·rw [closeU_app]
  congr 1
  unfold closeU
  rw [List.filterMap_cons,if_neg h]
 ·rw [closeU_app,closeU_other ha]
  congr 1
  have e:=closeU_other (D:=D) hc
  unfold closeU at e ⊢
  rw [List.filterMap_cons,if_pos (by simp),e]
  cases close1 p <;> rfl
section
variable {C:Cx} {s:St} {all:Array Oper} {l:List Oper} {k:List KI} {o:Oper}
theorem R.nextB {x:Operand} {b r:Nat} {m left:AM} {cur:Option Value} (hnd:(m.map (·.1)).Nodup) (hsub:∀ p∈left,p∈m) (ho:o.op = .next x false) (hg:o.guard=none) (hd:dstOk s o) (hx:evO s x = .pd (.raw (.pointer (some ⟨b,0,none⟩)))) (hit:s.map b=some (.it r (left.map keyS) cur)) (hm:s.map r=some (.map (encM m)))
  (over:left=[]→R C (.ops all l::k) (s.put o.dst (.tpl [.raw (.bool false)])))
  (step:∀ l1 p l2,left=l1++p::l2→R C (.ops all l::k) (St.put { s with maps:=up b (.it r ((l1++l2).map keyS) (some (keyS p))) s.maps } o.dst (.tpl [.raw (.bool true),.raw (keyS p),ans p.2]))):R C (.ops all (o::l)::k) s:=by
 refine R.next ho hg hd hx hit hm (encM_one m) (fun h=>over (by simpa using h)) (fun l1 key l2 i h1 hi hik=>?_)
 obtain ⟨a,c,h2,rfl,h3⟩:=List.map_eq_append_iff.1 h1
 obtain ⟨p,c',rfl,rfl,rfl⟩:=List.map_eq_cons_iff.1 h3
 have hpm:p∈m:=hsub p (by rw [h2]; simp)
 have hi:i<m.length:=by simpa using hi
 rw [encM_at m i hi] at hik
 have e:m[i]=p:=nodup_at hnd hpm hi (by simpa [keyS] using hik)
 rw [encM_at m i hi,e,← List.map_append]
 exact step a p c' h2
end
def closeOk (m:AM):Prop:=(∀ p∈m,(minW p.2.ways).length≤400)∧(closeA m).length≤1000
theorem wclose_ok (r:Nat) (m:AM) (hnd:(m.map (·.1)).Nodup) (ho:∀ p∈m,okL p.2.ways):
  FnM Tryz.prog 89 [.pd (mref r)] [(r,encM m)] [r] (fun res M'=>(closeOk m∧res = .ret [mref r]∧M'=[(r,encM (closeA m))])∨(¬ closeOk m∧res = .boom LIM∧M'=[])):=by
 refine FnM.mk Tryz.func89 rfl ent89 (by simp [Tryz.ntmps89]) fun w G=>?_
 (refine ev8 ?_; simp only [go_sem])
 refine R.rangeA m rfl rfl rfl (by (simp only [go_sem])) rfl (by simp [St.map,St.startM,lk]) (by show (mpT Tryz.prog 95).isSome=true; rw [mp95]; rfl) fun b hb1 hb2=>?_
 have e1:=ne_both hb1
 clear hb2
 have hks:∀ (m:AM),∀ p∈encM m,keyOk .string p.1=true:=by
  intro m p hp
  obtain ⟨q,_,rfl⟩:=List.mem_map.1 hp
  rfl
 (refine ev8 ?_; simp only [go_sem])
 have hnil:encM m=encM (closeU (([]:AM).map (·.1)) m):=by rw [List.map_nil,closeU_nil]
 refine R.famU (fun (y:AM × AM × Option Value) s=>{ St.lp [0,2,6,29,30,32] [] [] [] [] [] s with maps:=[(b,.it r (y.2.1.map keyS) y.2.2),(r,.map (encM (closeU (y.1.map (·.1)) m)))] }) (fun (y:AM × AM × Option Value)=>(y.1++y.2.1).Perm m∧∀ p∈y.1,(minW p.2.ways).length≤400) (fun (y:AM × AM × Option Value)=>y.2.1.length) (([],m,none)) (⟨.refl _,by simp⟩) (by (simp only [go_sem,closeU_nil,e1]); all_goals (and_intros <;> first | rfl | simp)) ?_
 rintro ⟨done,left,cur⟩ ⟨hp,hdn⟩
 simp only at hp hdn
 have hnd2:((closeU (done.map (·.1)) m).map (·.1)).Nodup:=closeU_nodup hnd
 have hnd3:((done++left).map (·.1)).Nodup:=(hp.map _).nodup_iff.2 hnd
 have hnD:∀ q∈left,q.1∉done.map (·.1):=by
  intro q hq hd
  rw [List.map_append] at hnd3
  exact (List.nodup_append.1 hnd3).2.2 q.1 hd q.1 (List.mem_map.2 ⟨q,hq,rfl⟩) rfl
 have hmem:∀ q∈left,q∈m:=fun q hq=>hp.mem_iff.1 (List.mem_append_right _ hq)
 (refine ev8 ?_; simp only [go_sem])
 refine R.nextB (m:=closeU (done.map (·.1)) m) (r:=r) (cur:=cur) (left:=left) hnd2 (fun q hq=>closeU_mem (hmem q hq) (hnD q hq)) rfl rfl (dstP_ok (by (simp only [go_sem]))) rfl (by simp [St.map,lk]) (by simp [St.map,lk,e1]) (fun hz0=>?_) (fun l1 q l2 hz0=>?_)
 ·subst hz0
  have hall:closeU (done.map (·.1)) m=closeA m:=closeU_all fun p hp2=>by
   have:=hp.mem_iff.2 hp2
   exact List.mem_map.2 ⟨p,by simpa using this,rfl⟩
  rw [hall]
  have h400:∀ p∈m,(minW p.2.ways).length≤400:=fun p hp2=>hdn p (by have:=hp.mem_iff.2 hp2; simpa using this)
  (refine evL8 ?_; simp only [go_sem,↓reduceIte,ite_self])
  refine R.lenM (m:=encM (closeA m)) rfl rfl rfl (dstP_ok (by (simp only [go_sem]))) rfl (by simp [St.map,lk,e1]) (by show (mpT Tryz.prog 95).isSome=true; rw [mp95]; rfl) ?_
  (refine ev8 ?_; simp only [go_sem,List.length_map])
  refine R.callM (by rfl) 60 (by rfl) rfl rfl (dstP_ok (by (simp only [go_sem]))) (.cons (.pd _) (.cons (.pd _) .nil)) (fewN_ok ((closeA m).length:Nat) 1000) (fun r' m' h=>by simp [lk] at h) (fun r' h=>by simp at h) ?_
  rintro res M' ⟨rfl,hres⟩ hh; clear hh
  by_cases hc:((closeA m).length:Int)≤1000
  ·rw [if_pos hc] at hres; subst hres
   simp only [Behind]
   (refine ev8 ?_; simp only [go_sem,List.filter_cons,e1])
   refine R.retM (vc:=True) [(r,encM (closeA m))] rfl trivial (.inl ⟨⟨h400,by omega⟩,rfl,rfl⟩) (fun r' m' h=>?_)
   simp only [lk] at h
   split at h
   ·rename_i e; subst e; cases h; exact ⟨by simp [St.map,lk,e1],.inl (by simp)⟩
   ·cases h
  ·rw [if_neg hc] at hres; subst hres
   simp only [Behind]
   exact fun a w E g=>boomM (.inr ⟨fun h=>hc (by have:=h.2; omega),rfl,rfl⟩) g
 ·have hql:q∈left:=by rw [hz0]; simp
  have hqm:=hmem q hql
  obtain ⟨a,c,hac⟩:=List.append_of_mem hqm
  have hst:=closeU_step (D:=done.map (·.1)) (a:=a) (c:=c) (p:=q) (by rw [← hac]; exact hnd) (hnD q hql)
  rw [← hac] at hst
  have hp2:((done++[q])++(l1++l2)).Perm m:=List.Perm.trans (by
   rw [hz0]
   simp only [List.append_assoc,List.singleton_append]
   exact List.Perm.append_left _ (List.perm_middle.symm)) hp
  have hD:(done++[q]).map (·.1)=done.map (·.1)++[q.1]:=by simp
  have hqk:keyS q∉(l1++l2).map keyS:=by
   intro h
   obtain ⟨q',hq',e⟩:=List.mem_map.1 h
   have e:q'.1=q.1:=by simpa [keyS] using e
   have hnd4:=(hp2.map (·.1)).nodup_iff.2 hnd
   rw [List.map_append] at hnd4
   exact (List.nodup_append.1 hnd4).2.2 q.1 (by simp) q'.1 (List.mem_map.2 ⟨q',hq',rfl⟩) e.symm
  (refine evL8 ?_; simp only [go_sem,↓reduceIte,ite_self])
  refine R.entryA (p:=q) (left:=(l1++l2).map keyS) (r:=r) hnd2 (closeU_mem hqm (hnD q hql)) rfl rfl (dstP_ok (by (simp only [go_sem]))) rfl (by simp [St.map,lk]) (by simp [St.map,lk,up,e1]) ?_
  (refine ev8 ?_; simp only [go_sem])
  refine R.callW (by rfl) (minimal_ok q.2.ways (ho q hqm)) rfl rfl (.cons (.pd _) (.nil)) (by simp [plain,PD.plain]) (by simp only [go_sem]) ?_
  (refine ev8 ?_; simp only [go_sem,List.length_map])
  have hme:closeU (done.map (·.1)) m=closeU (done.map (·.1)) a++q::closeU (done.map (·.1)) c:=hst.1
  have hi:(closeU (done.map (·.1)) a).length<(encM (closeU (done.map (·.1)) m)).length:=by rw [hme]; simp
  have hik:((encM (closeU (done.map (·.1)) m)).getD (closeU (done.map (·.1)) a).length (undef,.tup []))=(keyS q,ans q.2):=by rw [hme]; simp [encM,keyS]
  refine ⟨fun h2=>?_,fun h2=>?_⟩
  ·have h2:(minW q.2.ways).length=0:=by simpa using h2
   have hc1:close1 q=none:=by simp [close1,h2]
   have hnew:(encM (closeU (done.map (·.1)) m)).eraseIdx (closeU (done.map (·.1)) a).length=encM (closeU ((done++[q]).map (·.1)) m):=by
    rw [hD,hst.2,hc1,hme]
    simp [encM,List.eraseIdx_append_of_length_le]
   (refine ev8 ?_; simp only [go_sem])
   refine R.delM (i:=(closeU (done.map (·.1)) a).length) (m:=encM (closeU (done.map (·.1)) m)) rfl rfl rfl (dstP_ok (by (simp only [go_sem]))) rfl (by simp [St.map,St.put,St.newVar,lk,up,e1]) rfl mp95 rfl (hks _) (.inr (by simp [cmM])) hi (by rw [hik]) (fun b' left' cur' hb'=>?_) ?_
   ·simp only [St.map,St.put,St.newVar,lk,up,if_true] at hb'
    split at hb'
    ·cases hb'; exact hqk
    ·split at hb' <;> cases hb'
   rw [hnew]
   (refine ev8 ?_; simp only [go_sem,e1,atNone])
   have hdn2:∀ p∈done++[q],(minW p.2.ways).length≤400:=by
    intro p hp3
    rcases List.mem_append.1 hp3 with h | h
    ·exact hdn p h
    ·rw [List.mem_singleton.1 h]; omega
   refine R.famEnd (done++[q],l1++l2,none) ⟨hp2,hdn2⟩ (by (subst hz0; show _<_; simp <;> omega)) (by (simp only [go_sem,e1,atNone]); all_goals (and_intros <;> rfl))
  ·have h2:¬ (minW q.2.ways).length=0:=by simpa using h2
   have hc1:close1 q=some (q.1,⟨q.2.row,minW q.2.ways⟩):=by simp [close1,h2]
   have hnew:(encM (closeU (done.map (·.1)) m)).set (closeU (done.map (·.1)) a).length (.string q.1,ans ⟨q.2.row,minW q.2.ways⟩)=encM (closeU ((done++[q]).map (·.1)) m):=by
    rw [hD,hst.2,hc1,hme]
    simp [encM,List.set_append_right]
   (refine ev8 ?_; simp only [go_sem,List.length_map])
   refine R.callM (by rfl) 60 (by rfl) rfl rfl (dstP_ok (by (simp only [go_sem]))) (.cons (.pd _) (.cons (.pd _) .nil)) (fewN_ok ((minW q.2.ways).length:Nat) 400) (fun r' m' h=>by simp [lk] at h) (fun r' h=>by simp at h) ?_
   rintro res M' ⟨rfl,hres⟩ hh; clear hh
   by_cases hc:((minW q.2.ways).length:Int)≤400
   ·rw [if_pos hc] at hres; subst hres
    simp only [Behind]
    (refine ev8 ?_; simp only [go_sem,List.filter_cons,e1])
    refine R.updOld (i:=(closeU (done.map (·.1)) a).length) (m:=encM (closeU (done.map (·.1)) m)) (.inl rfl) rfl (dstP_ok (by (simp only [go_sem]))) rfl (by simp [St.map,St.put,St.newVar,lk,up,e1]) rfl rfl mp95 rfl (hks _) (.inr (by simp [cmM])) hi (by rw [hik]) ?_
    have hnew2:(encM (closeU (done.map (·.1)) m)).set (closeU (done.map (·.1)) a).length (keyS q,ans ⟨q.2.row,minW q.2.ways⟩)=encM (closeU ((done++[q]).map (·.1)) m):=hnew
    have hdn2:∀ p∈done++[q],(minW p.2.ways).length≤400:=by
     intro p hp3
     rcases List.mem_append.1 hp3 with h | h
     ·exact hdn p h
     ·rw [List.mem_singleton.1 h]; omega
    (refine ev8 ?_; simp only [go_sem,e1,hnew2])
    refine R.famEnd (done++[q],l1++l2,some (keyS q)) ⟨hp2,hdn2⟩ (by (subst hz0; show _<_; simp <;> omega)) (by (simp only [go_sem,e1,hnew2]); all_goals (and_intros <;> rfl))
   ·rw [if_neg hc] at hres; subst hres
    simp only [Behind]
    exact fun a w E g=>boomM (.inr ⟨fun h=>hc (by have:=h.1 q hqm; omega),rfl,rfl⟩) g
end Go.Proofs.YtjbhhddfaohdnaaGreatDoor
end
section
namespace Go.Proofs.YtjbhhddfaohdnaaGreatDoor
open Go Go.Abs Go.Proofs
set_option maxRecDepth 10000
set_option maxHeartbeats 4000000
theorem ent155:Ent Tryz.prog 155:=fun _ _=>by kernel_rfl
def negW (v:Int):W:=⟨[],[v]⟩
def posW (v:Int):W:=⟨[v],[]⟩
def notW (y:W):List W:=y.pos.map negW++y.neg.map posW
def minusL (l:List W):List W→Option (List W)
 | []=>some l
 | y::ys=>if (minW (bothL l (notW y))).length≤400 then minusL (minW (bothL l (notW y))) ys else none
theorem minusL_snoc (y:W):∀ (ys l l':List W),minusL l ys=some l'→minusL l (ys++[y])=if (minW (bothL l' (notW y))).length≤400 then some (minW (bothL l' (notW y))) else none
 | [],l,l',h=>by simp only [minusL,Option.some.injEq] at h; subst h; simp only [List.nil_append,minusL]
 | x::ys,l,l',h=>by
  simp only [minusL] at h
  split at h
  ·rename_i h1; simp only [List.cons_append,minusL,if_pos h1]; exact minusL_snoc y ys _ l' h
  ·cases h
theorem minusL_none (y:W) (zs:List W):∀ (ys l l':List W),minusL l ys=some l'→¬ (minW (bothL l' (notW y))).length≤400→minusL l (ys++y::zs)=none
 | [],l,l',h,hn=>by simp only [minusL,Option.some.injEq] at h; subst h; simp only [List.nil_append,minusL,if_neg hn]
 | x::ys,l,l',h,hn=>by
  simp only [minusL] at h
  split at h
  ·rename_i h1; simp only [List.cons_append,minusL,if_pos h1]; exact minusL_none y zs ys _ l' h hn
  ·cases h
def lenW (n:Nat) (w:W):Prop:=w.pos.length≤n∧w.neg.length≤n
theorem minW_mem {l:List W} {x:W} (h:x∈minW l):∃ y∈l,x=normW y:=by
 have h1:x∈norms l:=by
  have:x∈(norms l).filter (minB (norms l)):=(mem_sortBy order_cmpW x _).1 h
  exact (List.mem_filter.1 this).1
 simp only [norms,List.mem_filter,List.mem_map] at h1
 obtain ⟨⟨y,hy,rfl⟩,_⟩:=h1
 exact ⟨y,hy,rfl⟩
theorem lenW_norm {n:Nat} {w:W} (h:lenW n w):lenW n (normW w):=⟨Nat.le_trans (setI_len _) h.1,Nat.le_trans (setI_len _) h.2⟩
theorem lenW_min {n:Nat} {l:List W} (h:∀ w∈l,lenW n w):∀ w∈minW l,lenW n w:=by
 intro w hw
 obtain ⟨y,hy,rfl⟩:=minW_mem hw
 exact lenW_norm (h y hy)
theorem notW_len {y w:W} (h:w∈notW y):lenW 1 w:=by
 simp only [notW,List.mem_append,List.mem_map] at h
 rcases h with ⟨v,_,rfl⟩ | ⟨v,_,rfl⟩ <;> exact ⟨by simp [negW,posW],by simp [negW,posW]⟩
theorem lenW_both {n m:Nat} {a b:List W} (ha:∀ w∈a,lenW n w) (hb:∀ w∈b,lenW m w):∀ w∈bothL a b,lenW (n+m) w:=by
 intro w hw
 simp only [bothL,List.mem_flatMap,List.mem_map] at hw
 obtain ⟨x,hx,y,hy,rfl⟩:=hw
 have h1:=ha x hx; have h2:=hb y hy
 simp only [lenW,joinW,List.length_append] at *
 omega
theorem minusL_len {n:Nat}:∀ (ys l l':List W),minusL l ys=some l'→(∀ w∈l,lenW n w)→l.length≤400→(∀ w∈l',lenW (n+ys.length) w)∧l'.length≤400
 | [],l,l',h,hl,h4=>by simp only [minusL,Option.some.injEq] at h; subst h; exact ⟨by simpa using hl,h4⟩
 | y::ys,l,l',h,hl,h4=>by
  simp only [minusL] at h
  split at h
  ·rename_i h1
   have:=minusL_len (n:=n+1) ys _ l' h (lenW_min (lenW_both hl fun w=>notW_len)) h1
   have e:n+(y::ys).length=n+1+ys.length:=by simp; omega
   rw [e]; exact this
  ·cases h
def smallM (m:AM):Prop:=∀ q∈m,q.2.ways.length≤400∧∀ w∈q.2.ways,lenW 1000000 w
def minusQ (m2:AM) (q:ByteArray × Ans):Option (List W):=minusL q.2.ways ((waysAt q.1 m2).getD [])
def minusG (m2:AM) (q:ByteArray × Ans):AddL:=[(q.2.row,(minusQ m2 q).getD [])]
theorem waysAt_mem {m:AM} (hn:(m.map (·.1)).Nodup) {p:ByteArray × Ans} (hp:p∈m):waysAt p.1 m=some p.2.ways:=by
 induction m with
 | nil=>simp at hp
 | cons q m ih=>
  obtain ⟨n,a⟩:=q
  simp only [List.map_cons,List.nodup_cons] at hn
  simp only [waysAt]
  rcases List.mem_cons.1 hp with rfl | hp
  ·simp
  ·have:n≠p.1:=fun e=>hn.1 (e ▸ List.mem_map.2 ⟨p,hp,rfl⟩)
   rw [if_neg this]; exact ih hn.2 hp
theorem waysAt_none {n:ByteArray}:∀ {m:AM},(∀ p∈m,p.1≠n)→waysAt n m=none
 | [],_=>rfl
 | (n',a)::m,h=>by
  have h1:n'≠n:=h (n',a) (List.mem_cons_self ..)
  simp only [waysAt,if_neg h1]
  exact waysAt_none fun p hp=>h p (List.mem_cons_of_mem _ hp)
theorem up_up {α:Type} (k:Nat) (x y:α):∀ (l:List (Nat × α)),up k x (up k y l)=up k x l
 | []=>by simp [up]
 | (j,z)::l=>by
  simp only [up]
  split
  ·simp [up]
  ·rename_i h; simp [up,h,up_up k x y l]
theorem ans0Up:PUp (.tup [NIL,NIL]) (ans ⟨[],[]⟩):=.tup (.cons (.nil 3) (.cons (.nil 2) .nil))
theorem R.lookA {C:Cx} {s:St} {all:Array Oper} {l:List Oper} {k:List KI} {o:Oper} {x kx:Operand} {r d:Nat} {n:ByteArray} (m:AM) (hP:C.P=Tryz.prog) (hnd:(m.map (·.1)).Nodup) (ho:o.op = .lookup 95 x kx false) (hg:o.guard=none) (hd:o.dst=some d) (hn:d<s.n) (hx:evO s x = .pd (mref r)) (hm:s.map r=some (.map (encM m)))
  (hk:evO s kx = .pd (S n))
  (next:∀ a:Ans,a.ways=(waysAt n m).getD []→(a.ways=[]∨∃ q∈m,a=q.2)→R C (.ops all l::k) (s.set d (.pd (ans a)))):R C (.ops all (o::l)::k) s:=by
 have hd':dstOk s o:=fun t ht=>by rw [hd] at ht; cases ht; exact hn
 have hkk:∀ k∈(encM m).map (·.1),keyOk .string k=true:=by
  intro k hk
  rw [encM_keys] at hk
  obtain ⟨p,hp,rfl⟩:=List.mem_map.1 hk
  rfl
 by_cases hex:∃ q∈m,q.1=n
 ·obtain ⟨q,hq,rfl⟩:=hex
  have hnd2:((encM m).map (·.1)).Nodup:=by
   rw [encM_keys]
   simp only [List.Nodup,List.pairwise_map] at hnd ⊢
   exact hnd.imp fun h e=>h (by simpa [keyS] using e)
  obtain ⟨i,hi,hiq⟩:=List.getElem_of_mem hq
  have hlook:lookD C.P 39 .string (.string q.1) ((encM m).map (·.1)) ((encM m).map (·.2)) true (ans q.2):=by
   refine ⟨rfl,hkk,hnd2,i,by simpa using hi,?_,?_⟩
   ·simp [hi,hiq]
   ·simp [hi,hiq]
  refine R.lookM (ok:=false) ho hg hd' hx hm hk (by rw [hP]; exact mp95) hlook ?_
  have:=next q.2 (by rw [waysAt_mem hnd hq]; rfl) (.inr ⟨q,hq,rfl⟩)
  simpa [St.put,hd] using this
 ·have hno:∀ p∈m,p.1≠n:=fun p hp e=>hex ⟨p,hp,e⟩
  have hlook:lookD C.P 39 .string (.string n) ((encM m).map (·.1)) ((encM m).map (·.2)) false (.tup [NIL,NIL]):=by
   refine ⟨rfl,fun k hk=>⟨hkk k hk,fun e=>?_⟩,by rw [hP]; exact zd39⟩
   rw [encM_keys] at hk
   obtain ⟨p,hp,rfl⟩:=List.mem_map.1 hk
   exact hno p hp (by simpa [keyS] using e)
  refine R.lookM (ok:=false) ho hg hd' hx hm hk (by rw [hP]; exact mp95) hlook ?_
  have:=next ⟨[],[]⟩ (by rw [waysAt_none hno]; rfl) (.inl rfl)
  simp only [St.put,hd,if_false,Bool.false_eq_true]
  refine R.up d hn (by simp [St.get,St.set,lk_up]) ans0Up ?_
  have e:((s.set d (.pd (.tup [NIL,NIL]))).set d (.pd (ans ⟨[],[]⟩)))=s.set d (.pd (ans ⟨[],[]⟩)):=by simp [St.set,up_up]
  rw [e]; exact this
theorem negUp (i:Int):PUp (.list 2 [.tup [NIL,ints [i]]]) (ways [negW i]):=
 .list 2 rfl (fun j hj=>by
  have:j=0:=by simpa using hj
  subst this
  exact ⟨_,_,rfl,rfl,.cons (.nil 1) (.cons (.same _) .nil)⟩)
theorem wminus_ok (p:Plan) (facts:List Fct) (r1 r2:Nat) (m1 m2:AM) (h12:r1≠r2) (n1:(m1.map (·.1)).Nodup) (n2:(m2.map (·.1)).Nodup) (s1:smallM m1) (s2:smallM m2) (ho:okD (m1.flatMap (minusG m2))):
  FnM Tryz.prog 155 [.pd (qry p facts [r1,r2])] [(r1,encM m1),(r2,encM m2)] [] (fun res M'=>if ∀ q∈m1,(minusQ m2 q).isSome=true then isAdds (m1.flatMap (minusG m2)) res M' else res = .boom LIM∧M'=[]):=by
 have hz:=ne_both h12
 refine FnM.mk Tryz.func155 rfl ent155 (by simp [Tryz.ntmps155]) fun w G=>?_
 (refine ev8 ?_; simp only [go_sem])
 refine R.makeMap rfl rfl rfl (by (simp only [go_sem])) fun r hr1 hr0=>?_
 have e1:=ne_both (map_ne (q:=r1) (x:=.map (encM m1)) hr0 (by simp [St.map,St.startM,lk]))
 have e2:=ne_both (map_ne (q:=r2) (x:=.map (encM m2)) hr0 (by simp [St.map,St.startM,lk,hz]))
 clear hr0
 (refine ev8 ?_; simp only [go_sem,Int.toNat_zero])
 (repeat (refine And.intro (by omega) ?_))
 refine R.rangeA m1 rfl rfl rfl (by (simp only [go_sem])) rfl (by simp [St.map,lk,e1]) (by show (mpT Tryz.prog 95).isSome=true; rw [mp95]; rfl) fun b hb1 hb2=>?_
 have e4:=ne_both (map_ne (q:=r) (x:=.map []) hb2 (by simp [St.map,lk]))
 have e5:=ne_both (map_ne (q:=r1) (x:=.map (encM m1)) hb2 (by simp [St.map,lk,e1]))
 have e6:=ne_both (map_ne (q:=r2) (x:=.map (encM m2)) hb2 (by simp [St.map,lk,e2,hz]))
 clear hb1 hb2
 (refine ev8 ?_; simp only [go_sem])
 refine R.famU (fun (y:AM × AM × AddL × Option Value) s=>{ St.lp [1,2,3,19,80] [] [1] [] [] [] s with maps:=[(b,.it r1 (y.2.1.map keyS) y.2.2.2),(r,.map (encM (runA y.2.2.1))),(r1,.map (encM m1)),(r2,.map (encM m2))] }) (fun (y:AM × AM × AddL × Option Value)=>(y.1++y.2.1).Perm m1∧y.2.2.1.Perm ([]++y.1.flatMap (minusG m2))∧∀ q∈y.1,(minusQ m2 q).isSome=true) (fun (y:AM × AM × AddL × Option Value)=>y.2.1.length) (([],m1,[],none)) (⟨.refl _,by simp,by simp⟩) (by (simp only [go_sem,encA_nil,e1,e2,e4,e5,e6,hz]); all_goals (and_intros <;> first | rfl | simp)) ?_
 rintro ⟨done,left,L',cur⟩ ⟨hp,hL',hdn⟩
 simp only at hp hL' hdn
 (refine ev8 ?_; simp only [go_sem])
 refine R.nextA (m:=m1) (r:=r1) (cur:=cur) (left:=left) (done:=done) n1 hp rfl rfl (dstP_ok (by (simp only [go_sem]))) rfl (by simp [St.map,lk]) (by simp [St.map,lk,e1,e4,e5]) (fun hz0=>?_) (fun l1 q l2 hz0 hpm hp2=>?_)
 ·subst hz0
  have hL2:L'.Perm (m1.flatMap (minusG m2)):=by refine hL'.trans ?_; exact List.Perm.flatMap_right _ (by simpa using hp)
  have hall:∀ q∈m1,(minusQ m2 q).isSome=true:=fun q hq=>hdn q (by have:=hp.mem_iff.2 hq; simpa using this)
  (refine evL8 ?_; simp only [go_sem,↓reduceIte,ite_self])
  refine R.retM (vc:=True) [(r,encM (runA L'))] rfl trivial (by rw [if_pos hall]; exact ⟨r,L',rfl,rfl,hL2⟩) (fun r' m' h=>?_)
  simp only [lk] at h
  split at h
  ·rename_i e; subst e; cases h; exact ⟨by simp [St.map,lk,e4],.inr hr1⟩
  ·cases h
 ·(refine evL8 ?_; simp only [go_sem,↓reduceIte,ite_self])
  refine R.entryA (p:=q) (left:=(l1++l2).map keyS) (r:=r1) n1 hpm rfl rfl (dstP_ok (by (simp only [go_sem]))) rfl (by simp [St.map,lk]) (by simp [St.map,lk,up,e1,e4,e5]) ?_
  (refine ev8 ?_; simp only [go_sem,Int.toNat_one])
  (repeat (refine And.intro (by omega) ?_))
  refine R.lookA m2 rfl n2 rfl rfl rfl (by (simp only [go_sem])) rfl (by simp [St.map,lk,up,e2,e6,hz]) rfl fun a ha ham=>?_
  have hq1:=s1 q hpm
  have hya:a.ways.length≤400∧∀ w∈a.ways,lenW 1000000 w:=by
   rcases ham with h | ⟨q',hq',rfl⟩
   ·rw [h]; simp
   ·exact s2 q' hq'
  have hmq:minusQ m2 q=minusL q.2.ways a.ways:=by rw [minusQ,ha]
  (refine ev8 ?_; simp only [go_sem])
  refine R.famU (fun (z:Nat × List W) s=>St.lp [1,2,3,5,19,33,34,75,76,77,78,80] [(35,.pd (I z.1)),(6,.pd (ways z.2))] [1,5] [] [] [] s) (fun (z:Nat × List W)=>z.1≤a.ways.length∧minusL q.2.ways (a.ways.take z.1)=some z.2) (fun (z:Nat × List W)=>a.ways.length - z.1) ((0,q.2.ways)) (⟨by show 0≤_; omega,by simp [minusL]⟩) (by (simp only [go_sem,e1,e2,e4,e5,e6,hz]); all_goals (and_intros <;> rfl)) ?_
  rintro ⟨k,l⟩ ⟨hk,hl⟩
  simp only at hk hl
  obtain ⟨hll,hl4⟩:=minusL_len (n:=1000000) _ _ _ hl hq1.2 hq1.1
  (refine evC8 ?_; simp only [go_sem,List.cons.injEq,SV.pd.injEq,ite_self])
  refine ⟨fun h=>?_,fun h=>?_⟩
  ·have hlt:k<a.ways.length:=by simpa using h
   have hyk:=hya.2 a.ways[k] (List.getElem_mem hlt)
   have htk:=List.take_succ_eq_append_getElem hlt
   have hdk:a.ways=a.ways.take k++a.ways[k]::a.ways.drop (k+1):=by rw [← drop_cons hlt,List.take_append_drop]
   have hsn:=minusL_snoc a.ways[k] _ _ _ hl
   have hnn:=minusL_none a.ways[k] (a.ways.drop (k+1)) _ _ _ hl
   rw [← htk] at hsn
   rw [← hdk,← hmq] at hnn
   have hll2:∀ w∈l,lenW 1000400 w:=fun w hw=>by
    have h1:=hll w hw
    have h2:(a.ways.take k).length≤400:=by rw [List.length_take]; omega
    unfold lenW at *; omega
   (refine evC8 ?_; simp only [go_sem,List.cons.injEq,SV.pd.injEq,getD_map,hlt])
   (repeat (refine And.intro (by omega) ?_))
   generalize a.ways[k]=y at *
   have hyp:=hyk.1
   have hyn:=hyk.2
   have hn1:y.pos.length≤1000000:=hyk.1
   have hn2:y.neg.length≤1000000:=hyk.2
   refine R.mkOwn 9 9 53 2 (by (simp only [go_sem])) rfl rfl ?_
   (simp only [go_sem])
   refine R.famU (fun (j:Nat) s=>St.lp [1,2,3,5,6,8,13,19,33,34,35,40,41,53,54,55,56,57,58,59,60,61,62,63,64,65,66,67,68,69,70,71,72,74,75,76,77,78,80] [(42,.pd (I j)),(9,.own 9)] [1,5,8] [] [] [(9,⟨53,2,((y.pos.take j).map negW).map way⟩)] s) (fun (j:Nat)=>j≤y.pos.length) (fun (j:Nat)=>y.pos.length - j) (0) (by omega) (by (simp only [go_sem,e1,e2,e4,e5,e6,hz]); all_goals (and_intros <;> rfl)) ?_
   rintro j hj
   (refine evC8 ?_; simp only [go_sem,List.cons.injEq,SV.pd.injEq,ite_self])
   refine ⟨fun h3=>?_,fun h3=>?_⟩
   ·have hlt3:j<y.pos.length:=by simpa using h3
    have hsn3:(y.pos.take (j+1)).map negW=(y.pos.take j).map negW++[negW y.pos[j]]:=by rw [List.take_succ_eq_append_getElem hlt3,List.map_append]; rfl
    (refine evC8 ?_; simp only [go_sem,List.cons.injEq,SV.pd.injEq,getD_map,hlt3])
    (repeat (refine And.intro (by omega) ?_))
    refine R.up 50 (by (simp only [go_sem])) rfl (negUp _) ?_
    (simp only [go_sem])
    refine R.append1 (d:=way (negW y.pos[j])) 1000000000 48 rfl rfl (by (simp only [go_sem])) rfl rfl rfl rfl sl32 rfl sz53 (by simp) (congrArg (Option.map List.length) ze53) rfl by53 (by simp; omega) (by decide) (by decide) ?_
    (refine ev8 ?_; simp only [go_sem,wrapN (k:=j) (by omega)])
    refine R.famEnd (j+1) (by omega) (by show _<_; omega) (by (simp only [go_sem,e1,e2,e4,e5,e6,hz,hsn3,List.map_append,List.map_cons,List.map_nil]); all_goals (and_intros <;> rfl))
   ·have hge3:y.pos.take j=y.pos:=List.take_of_length_le (by have:¬ j<y.pos.length:=by simpa using h3
                                                             omega)
    rw [hge3]
    (refine ev8 ?_; simp only [go_sem])
    have h0:(y.pos.map negW).map way=(y.pos.map negW++(y.neg.take 0).map posW).map way:=by simp
    refine R.famU (fun (j:Nat) s=>St.lp [1,2,3,5,6,19,33,34,35,54,55,67,68,69,70,71,72,74,75,76,77,78,80] [(56,.pd (I j)),(9,.own 9)] [1,5,8] [] [] [(9,⟨53,2,(y.pos.map negW++(y.neg.take j).map posW).map way⟩)] s) (fun (j:Nat)=>j≤y.neg.length) (fun (j:Nat)=>y.neg.length - j) (0) (by omega) (by (simp only [go_sem,e1,e2,e4,e5,e6,hz,h0]); all_goals (and_intros <;> rfl)) ?_
    rintro i hi
    (refine evC8 ?_; simp only [go_sem,List.cons.injEq,SV.pd.injEq,ite_self])
    refine ⟨fun h4=>?_,fun h4=>?_⟩
    ·have hlt4:i<y.neg.length:=by simpa using h4
     have hsn4:(y.neg.take (i+1)).map posW=(y.neg.take i).map posW++[posW y.neg[i]]:=by rw [List.take_succ_eq_append_getElem hlt4,List.map_append]; rfl
     (refine evC8 ?_; simp only [go_sem,List.cons.injEq,SV.pd.injEq,getD_map,hlt4])
     (repeat (refine And.intro (by omega) ?_))
     refine R.up 64 (by (simp only [go_sem])) rfl (wayUp _) ?_
     (simp only [go_sem])
     refine R.append1 (d:=way (posW y.neg[i])) 1000000000 48 rfl rfl (by (simp only [go_sem])) rfl rfl rfl rfl sl32 rfl sz53 (by simp) (congrArg (Option.map List.length) ze53) rfl by53 (by simp; omega) (by decide) (by decide) ?_
     (refine ev8 ?_; simp only [go_sem,wrapN (k:=i) (by omega)])
     refine R.famEnd (i+1) (by omega) (by show _<_; omega) (by (simp only [go_sem,e1,e2,e4,e5,e6,hz,hsn4,List.map_append,List.append_assoc,List.map_cons,List.map_nil]); all_goals (and_intros <;> rfl))
    ·have hge4:y.neg.take i=y.neg:=List.take_of_length_le (by have:¬ i<y.neg.length:=by simpa using h4
                                                              omega)
     rw [hge4]
     have hnw:y.pos.map negW++y.neg.map posW=notW y:=rfl
     rw [hnw]
     have hnl:(notW y).length≤2000000:=by simp [notW]; omega
     have hb1:=both_okW l (notW y) (fun w hw=>by have:=hll2 w hw; unfold lenW midW at *; omega) (fun w hw=>by have:=notW_len hw; unfold lenW midW at *; omega) (by omega) (by omega) (by
      have:=Nat.mul_le_mul hl4 hnl; omega)
     have hb2:=minimal_ok (bothL l (notW y)) ⟨by rw [bothL_len]; have:=Nat.mul_le_mul hl4 hnl; omega,fun w hw=>by have:=lenW_both hll2 (fun w=>notW_len) w hw; unfold lenW okW at *; omega⟩
     (refine ev8 ?_; simp only [go_sem])
     refine R.frz 9 rfl rfl ?_
     (simp only [go_sem])
     refine R.callW (by rfl) (hb1) rfl rfl (.cons (.pd _) (.cons (.pd _) (.nil))) (by simp [plain,PD.plain]) (by simp only [go_sem]) ?_
     (refine ev8 ?_; simp only [go_sem])
     refine R.callW (by rfl) (hb2) rfl rfl (.cons (.pd _) (.nil)) (by simp [plain,PD.plain]) (by simp only [go_sem]) ?_
     (refine ev8 ?_; simp only [go_sem,List.length_map])
     refine R.callM (by rfl) 60 (by rfl) rfl rfl (dstP_ok (by (simp only [go_sem]))) (.cons (.pd _) (.cons (.pd _) .nil)) (fewN_ok ((minW (bothL l (notW y))).length:Nat) 400) (fun r' m' h=>by simp [lk] at h) (fun r' h=>by simp at h) ?_
     rintro res M' ⟨rfl,hres⟩ hh; clear hh
     by_cases hc:((minW (bothL l (notW y))).length:Int)≤400
     ·rw [if_pos hc] at hres; subst hres
      rw [if_pos (by omega)] at hsn
      simp only [Behind]
      (refine ev8 ?_; simp only [go_sem,List.filter_cons,e1,e2,e4,e5,e6,hz,wrapN (k:=k) (by omega)])
      refine R.famEnd (k+1,minW (bothL l (notW y))) ⟨by show k+1≤_; omega,hsn⟩ (by show _<_; simp; omega) (by (simp only [go_sem,e1,e2,e4,e5,e6,hz]); all_goals (and_intros <;> rfl))
     ·rw [if_neg hc] at hres; subst hres
      simp only [Behind]
      refine fun a w E g=>boomM ?_ g
      rw [if_neg (fun h=>by have:=h q hpm; rw [hnn (by omega)] at this; cases this)]
      exact ⟨rfl,rfl⟩
  ·have hke:a.ways.take k=a.ways:=List.take_of_length_le (by have:¬ k<a.ways.length:=by simpa using h
                                                             omega)
   rw [hke,← hmq] at hl
   have hstep:=adds_step (g:=minusG m2) hL' q
   have hpre:=okD_step (A:=[]) (g:=minusG m2) ho hp2 hL'
   have hg:minusG m2 q=[(q.2.row,l)]:=by simp [minusG,hl]
   rw [hg] at hstep hpre
   have hdn2:∀ q'∈done++[q],(minusQ m2 q').isSome=true:=by
    intro q' h
    rcases List.mem_append.1 h with h | h
    ·exact hdn q' h
    ·rw [List.mem_singleton.1 h,hl]; rfl
   (refine ev8 ?_; simp only [go_sem])
   refine R.callM (by rfl) 60 (by rfl) rfl rfl (dstP_ok (by (simp only [go_sem]))) (.cons (.pd _) (.cons (.pd _) (.cons (.pd _) .nil))) (addA_ok r L' (q.2.row,l) hpre) (fun r' m' h=>?_) (fun r' h=>?_) ?_
   ·simp only [lk] at h
    split at h
    ·rename_i e; subst e; cases h; simp [St.map,St.put,St.newVar,lk,up,e4]
    ·cases h
   ·simp only [List.mem_singleton] at h; subst h; exact ⟨by simp [lk],.inl hr1⟩
   rintro res M' ⟨rfl,rfl⟩ hh; clear hh
   simp only [Behind]
   (refine ev8 ?_; simp only [go_sem,List.filter_cons,e1,e2,e4,e5,e6,hz])
   refine R.famEnd (done++[q],l1++l2,L' ++ [(q.2.row,l)],some (keyS q)) ⟨hp2,hstep,hdn2⟩ (by (subst hz0; show _<_; simp <;> omega)) (by (simp only [go_sem,e1,e2,e4,e5,e6,hz]); all_goals (and_intros <;> rfl))
end Go.Proofs.YtjbhhddfaohdnaaGreatDoor
end
