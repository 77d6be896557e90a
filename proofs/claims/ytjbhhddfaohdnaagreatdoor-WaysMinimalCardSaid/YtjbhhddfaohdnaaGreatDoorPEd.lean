/- A part of the proof: Pf, Or, Ni, Ed. -/
import Derived.Test.YtjbhhddfaohdnaaGreatDoorPPe
import Derived.Test.YtjbhhddfaohdnaaGreatDoorPBv
set_option linter.all false
set_option linter.deprecated false
section
namespace Go.Proofs.YtjbhhddfaohdnaaGreatDoor
open Go Go.Abs Go.Proofs
def tabAdds (t:Int) (facts:List Fct):AddL:=facts.zipIdx.flatMap fun q=>if q.1.table = t then [(q.1.row,[⟨[(q.2:Int)],[]⟩])] else []
def kidAdds (p:Plan) (facts:List Fct) (ms:List AM):Option AddL:=
 if p.kind = 1 then some (tabAdds p.table facts) else match p.kids,ms with
 | [_],[m]=>if p.kind = 2 then some (m.flatMap (selG p)) else if p.kind = 3 then some (m.flatMap (projG p)) else some (addsM m)
 | [k0,k1],[m1,m2]=>if p.kind = 4 then some (m1.flatMap fun q=>m2.flatMap (joinG k0.attrs k1.attrs q)) else if p.kind = 5 then some (addsM m1 ++ addsM m2)
   else if m1.all fun q=>(minusQ m2 q).isSome then some (m1.flatMap (minusG m2)) else none
 | _,_=>none
def EvN (facts:List Fct):Nat→Plan→AM→Prop
 | 0,_,_=>False
 | n + 1,p,m=>∃ ms:List AM,ms.length = p.kids.length∧(∀ i (h:i < p.kids.length) (h2:i < ms.length),EvN facts n p.kids[i] ms[i])∧∃ L0 L,kidAdds p facts ms = some L0∧L.Perm L0∧closeOk (runA L)∧m = closeA (runA L)
def EvX (facts:List Fct):Nat→Plan→Prop
 | 0,_=>False
 | n + 1,p=>(∃ i,∃ h:i < p.kids.length,EvX facts n p.kids[i]) ∨ ∃ ms:List AM,ms.length = p.kids.length∧(∀ i (h:i < p.kids.length) (h2:i < ms.length),EvN facts n p.kids[i] ms[i]) ∧
   (kidAdds p facts ms = none ∨ ∃ L0 L,kidAdds p facts ms = some L0∧L.Perm L0∧¬ closeOk (runA L))
def factsOk (tl:List Tbl) (facts:List Fct):Prop:=facts.length ≤ 4000∧∀ f ∈ facts,0 ≤ f.table∧∃ h:f.table.toNat < tl.length,fitsV (tl[f.table.toNat]).attrs f.row = true
inductive Shape (tl:List Tbl) (n:Nat) (p:Plan):Prop
 | table (hk:p.kind = 1) (hks:p.kids = []) (h0:0 ≤ p.table) (h1:p.table.toNat < tl.length) (hl:p.attrs.length = (tl[p.table.toNat]).attrs.length)
 | sel (hk:p.kind = 2) (q:Plan) (hks:p.kids = [q]) (hq:validB n tl q = true) (hs:selV p q = true) (hl:p.attrs.length = q.attrs.length)
 | proj (hk:p.kind = 3) (q:Plan) (hks:p.kids = [q]) (hq:validB n tl q = true) (hc:∀ c ∈ p.cols,0 ≤ c∧c.toNat < q.attrs.length) (hl:p.attrs.length = p.cols.length)
 | join (hk:p.kind = 4) (q r:Plan) (hks:p.kids = [q,r]) (hq:validB n tl q = true) (hr:validB n tl r = true) (hn:(q.attrs.map (·.name)).Nodup) (hl:∃ l,joinA q.attrs q.attrs r.attrs = some l∧p.attrs.length = l.length)
 | union (hk:p.kind = 5) (q r:Plan) (hks:p.kids = [q,r]) (hq:validB n tl q = true) (hr:validB n tl r = true) (hl:p.attrs.length = q.attrs.length) (hl2:p.attrs.length = r.attrs.length)
 | minus (hk:p.kind = 6) (q r:Plan) (hks:p.kids = [q,r]) (hq:validB n tl q = true) (hr:validB n tl r = true) (hl:p.attrs.length = q.attrs.length) (hl2:p.attrs.length = r.attrs.length)
 | ren (hk:p.kind = 7) (q:Plan) (hks:p.kids = [q]) (hq:validB n tl q = true) (hl:p.attrs.length = q.attrs.length)
theorem alikeL_len {a b:List Attr} (h:alikeL a b = true):a.length = b.length:=by
 unfold alikeL at h; simp at h; exact h.1
theorem pickV_all {α:Type} (l:List α):∀ (cs:List Int) (out:List α),pickV l cs = some out→∀ c ∈ cs,0 ≤ c∧c.toNat < l.length
 | [],_,_,c,hc=>by simp at hc
 | x :: cs,out,h,c,hc=>by
  simp only [pickV] at h
  split at h
  ·rename_i hx
   rcases List.mem_cons.1 hc with rfl | hc
   ·exact hx
   ·cases e:pickV l cs with
    | none=>simp [e] at h
    | some o=>exact pickV_all l cs o e c hc
  ·cases h
theorem eqS_iff (a b:ByteArray):eqS a b = true ↔ a = b:=by
 unfold eqS
 rw [beq_iff_eq]
 constructor
 ·intro h
  have:a.data.toList = b.data.toList:=by
   have h1:∀ c:ByteArray,c.toList = c.data.toList:=fun c=>ByteArray.toList_eq c
   rw [← h1,← h1,h]
  cases a; cases b; congr 1; exact Array.toList_inj.1 this
 ·rintro rfl; rfl
theorem namesB_nodup {l:List Attr} (h:namesB l = true):(l.map (·.name)).Nodup:=by
 unfold namesB at h
 rw [List.all_eq_true] at h
 rw [List.Nodup,List.pairwise_map,List.pairwise_iff_getElem]
 intro i j hi hj hij e
 have h1:=h (l[j],j) (by rw [List.mem_iff_getElem]; exact ⟨j,by simpa using hj,by simp⟩)
 simp only [decide_eq_true_eq] at h1
 have h2:colA l l[j].name ≤ (i:Int):=by
  unfold colA idxP
  cases hf:l.findIdx? (fun t=>eqS t.name l[j].name) with
  | none=>simp <;> omega
  | some k=>
   rw [List.findIdx?_eq_some_iff_getElem] at hf
   obtain ⟨hk,_,hmin⟩:=hf
   simp only
   rcases Nat.lt_or_ge i k with hlt | hge
   ·have:=hmin i hlt
    rw [(eqS_iff _ _).2 e] at this; simp at this
   ·omega
 omega
theorem two_of {α:Type}:∀ {l:List α},l.length = 2→∃ q r,l = [q,r]
 | [q,r],_=>⟨q,r,rfl⟩
theorem valid_shape {tl:List Tbl} {n:Nat} {p:Plan} (h:validB (n + 1) tl p = true) (h8:p.kind ≠ 8):Shape tl n p:=by
 simp only [validB,Bool.and_eq_true,decide_eq_true_eq] at h
 obtain ⟨⟨⟨⟨hk,hks⟩,_⟩,_⟩,hw⟩:=h
 rw [List.all_eq_true] at hks
 cases hwa:wantA tl p with
 | none=>rw [hwa] at hw; cases hw
 | some l=>
  rw [hwa] at hw
  have hl:=alikeL_len hw
  unfold wantA at hwa
  unfold kidN at hk
  by_cases h1:p.kind = 1
  ·simp only [h1,if_true,Option.some.injEq] at hk
   rw [if_pos h1] at hwa
   unfold tabCols at hwa
   split at hwa
   ·rename_i hc
    cases hwa
    refine .table h1 (List.length_eq_zero_iff.1 hk.symm) hc.1 hc.2 ?_
    rw [← hl]; simp [tabA]
   ·cases hwa
  rw [if_neg h1] at hwa hk
  by_cases h4:p.kind = 4 ∨ p.kind = 5 ∨ p.kind = 6
  ·have hk2:p.kids.length = 2:=by
    rcases h4 with h | h | h <;> simp [h] at hk <;> omega
   obtain ⟨q,r,hqr⟩:=two_of hk2
   have hq:=hks q (by rw [hqr]; simp)
   have hr:=hks r (by rw [hqr]; simp)
   rw [hqr] at hwa
   simp only at hwa
   rcases h4 with h | h | h
   ·rw [if_pos h] at hwa
    refine .join h q r hqr hq hr ?_ ⟨l,hwa,hl.symm⟩
    cases n with
    | zero=>simp [validB] at hq
    | succ n=>
     simp only [validB,Bool.and_eq_true] at hq
     exact namesB_nodup hq.1.2
   ·rw [if_neg (by omega),if_pos (.inl h)] at hwa
    unfold okOf at hwa
    split at hwa
    ·rename_i ha; cases hwa
     exact .union h q r hqr hq hr hl.symm (by rw [← hl]; exact alikeL_len ha)
    ·cases hwa
   ·rw [if_neg (by omega),if_pos (.inr h)] at hwa
    unfold okOf at hwa
    split at hwa
    ·rename_i ha; cases hwa
     exact .minus h q r hqr hq hr hl.symm (by rw [← hl]; exact alikeL_len ha)
    ·cases hwa
  by_cases h2:p.kind = 2 ∨ p.kind = 3 ∨ p.kind = 7
  ·have hk2:p.kids.length = 1:=by
    rcases h2 with h | h | h <;> simp [h] at hk <;> omega
   obtain ⟨q,hqr⟩:=List.length_eq_one_iff.1 hk2
   have hq:=hks q (by rw [hqr]; simp)
   rw [hqr] at hwa
   simp only at hwa
   rcases h2 with h | h | h
   ·rw [if_pos h] at hwa
    unfold okOf at hwa
    split at hwa
    ·rename_i ha; cases hwa
     exact .sel h q hqr hq ha hl.symm
    ·cases hwa
   ·rw [if_neg (by omega),if_pos h] at hwa
    exact .proj h q hqr hq (pickV_all _ _ _ hwa) (by rw [← hl]; exact pickV_len _ _ _ hwa)
   ·rw [if_neg (by omega),if_neg (by omega),if_pos h] at hwa
    unfold renCols at hwa
    split at hwa
    ·rename_i hc; cases hwa
     exact .ren h q hqr hq hc.2
    ·cases hwa
  ·exfalso
   have:¬ (p.kind = 2 ∨ p.kind = 3 ∨ p.kind = 4 ∨ p.kind = 5 ∨ p.kind = 6 ∨ p.kind = 7 ∨ p.kind = 8):=by omega
   rw [if_neg (by omega),if_neg (by omega),if_neg (by omega),if_neg (by omega),if_neg (by omega),if_neg (by omega),if_neg h8] at hk
   cases hk
theorem fits_valid {l:List Attr} {row:List V} (h:fitsV l row = true):row.length = l.length∧validR row:=by
 unfold fitsV at h
 simp only [Bool.and_eq_true,decide_eq_true_eq] at h
 refine ⟨h.1,fun v hv=>?_⟩
 obtain ⟨i,hi,rfl⟩:=List.getElem_of_mem hv
 have:=(List.all_eq_true.1 h.2) (l[i]'(by omega),row[i]) (by rw [List.mem_iff_getElem]; exact ⟨i,by simp; omega,by simp⟩)
 unfold fitV at this
 simp only [Bool.and_eq_true] at this
 exact this.1
theorem sumW_le {α:Type} (c:Nat) (g:α→AddL):∀ (l:List α),(∀ x ∈ l,sumW (g x) ≤ c)→sumW (l.flatMap g) ≤ c * l.length
 | [],_=>by simp [sumW]
 | x :: l,h=>by
  have h1:=h x (List.mem_cons_self ..)
  have h2:=sumW_le c g l fun y hy=>h y (List.mem_cons_of_mem _ hy)
  rw [List.flatMap_cons,sumW_app,List.length_cons,Nat.mul_add,Nat.mul_one]; omega
theorem sumW_one (row:List V) (l:List W):sumW [(row,l)] = l.length:=by simp [sumW]
theorem tabAdds_ok {tl:List Tbl} {facts:List Fct} (hf:factsOk tl facts) {t:Int} (h0:0 ≤ t) (h1:t.toNat < tl.length):Adds facts.length (tl[t.toNat]).attrs.length (tabAdds t facts):=by
 have hm:∀ x ∈ tabAdds t facts,∃ i,∃ h:i < facts.length,facts[i].table = t∧x = (facts[i].row,[⟨[(i:Int)],[]⟩]):=by
  intro x hx
  simp only [tabAdds,List.mem_flatMap] at hx
  obtain ⟨⟨f,i⟩,hq,hx⟩:=hx
  split at hx
  ·rename_i e
   obtain ⟨hi,hfi⟩:=List.mem_zipIdx' hq
   exact ⟨i,hi,by rw [← hfi]; exact e,by rw [← hfi]; simpa using hx⟩
  ·simp at hx
 have hrow:∀ i (h:i < facts.length),facts[i].table = t→facts[i].row.length = (tl[t.toNat]).attrs.length∧validR facts[i].row:=by
  intro i h e
  obtain ⟨_,h3,h4⟩:=hf.2 facts[i] (List.getElem_mem h)
  have:=fits_valid h4
  simp only [e] at this
  exact this
 refine ⟨fun x hx=>?_,fun x hx=>?_,fun x hx w hw=>?_,fun x hx w hw=>?_,?_⟩
 ·obtain ⟨i,hi,e,rfl⟩:=hm x hx; exact (hrow i hi e).2
 ·obtain ⟨i,hi,e,rfl⟩:=hm x hx; exact (hrow i hi e).1
 ·obtain ⟨i,hi,e,rfl⟩:=hm x hx
  rw [List.mem_singleton.1 hw]
  exact ⟨fun z hz=>by rw [List.mem_singleton.1 hz]; omega,fun z hz=>by simp at hz⟩
 ·obtain ⟨i,hi,e,rfl⟩:=hm x hx
  rw [List.mem_singleton.1 hw]
  exact ⟨by simp,by simp⟩
 ·have:=sumW_le 1 (fun q:Fct × Nat=>if q.1.table = t then [(q.1.row,[(⟨[(q.2:Int)],[]⟩:W)])] else []) facts.zipIdx (fun q _=>by by_cases h:q.1.table = t <;> simp [h,sumW])
  have hl:=hf.1
  simp only [List.length_zipIdx] at this
  unfold tabAdds; omega
theorem clo_adds {n c:Nat} {m:AM} (h:Clo n c m):Adds n c (addsM m):=by
 refine ⟨fun x hx=>?_,fun x hx=>?_,fun x hx=>?_,fun x hx=>?_,?_⟩
 ·obtain ⟨q,hq,hx⟩:=List.mem_flatMap.1 hx
  rw [List.mem_singleton.1 hx]; exact h.valid q hq
 ·obtain ⟨q,hq,hx⟩:=List.mem_flatMap.1 hx
  rw [List.mem_singleton.1 hx]; exact h.width q hq
 ·obtain ⟨q,hq,hx⟩:=List.mem_flatMap.1 hx
  rw [List.mem_singleton.1 hx]; exact h.inN q hq
 ·obtain ⟨q,hq,hx⟩:=List.mem_flatMap.1 hx
  rw [List.mem_singleton.1 hx]; exact h.srt q hq
 ·have:sumW (addsM m) ≤ 400 * m.length:=sumW_le 400 add1 m fun q hq=>by rw [sumW_one]; exact h.few q hq
  have:=h.len; omega
theorem adds_app {n c:Nat} {L M:AddL} (h1:∀ x ∈ L,validR x.1∧x.1.length = c∧(∀ w ∈ x.2,inW n w)∧∀ w ∈ x.2,sortedW w) (h2:∀ x ∈ M,validR x.1∧x.1.length = c∧(∀ w ∈ x.2,inW n w)∧∀ w ∈ x.2,sortedW w) (hs:sumW L + sumW M ≤ 500000000000):Adds n c (L ++ M):=
 ⟨fun x hx=>(List.mem_append.1 hx).elim (fun h=>(h1 x h).1) (fun h=>(h2 x h).1),fun x hx=>(List.mem_append.1 hx).elim (fun h=>(h1 x h).2.1) (fun h=>(h2 x h).2.1),fun x hx=>(List.mem_append.1 hx).elim (fun h=>(h1 x h).2.2.1) (fun h=>(h2 x h).2.2.1),fun x hx=>(List.mem_append.1 hx).elim (fun h=>(h1 x h).2.2.2) (fun h=>(h2 x h).2.2.2),by rw [sumW_app]; exact hs⟩
theorem union_adds {n c:Nat} {m1 m2:AM} (h1:Clo n c m1) (h2:Clo n c m2):Adds n c (addsM m1 ++ addsM m2):=by
 have a:=clo_adds h1; have b:=clo_adds h2
 refine adds_app (fun x hx=>⟨a.valid x hx,a.width x hx,a.inN x hx,a.srt x hx⟩) (fun x hx=>⟨b.valid x hx,b.width x hx,b.inN x hx,b.srt x hx⟩) ?_
 have s1:sumW (addsM m1) ≤ 400 * m1.length:=sumW_le 400 add1 m1 fun q hq=>by rw [sumW_one]; exact h1.few q hq
 have s2:sumW (addsM m2) ≤ 400 * m2.length:=sumW_le 400 add1 m2 fun q hq=>by rw [sumW_one]; exact h2.few q hq
 have:=h1.len; have:=h2.len; omega
theorem sel_adds {n c:Nat} {m:AM} (p:Plan) (h:Clo n c m):Adds n c (m.flatMap (selG p)):=by
 have hm:∀ x ∈ m.flatMap (selG p),∃ q ∈ m,x = (q.2.row,q.2.ways):=by
  intro x hx
  obtain ⟨q,hq,hx⟩:=List.mem_flatMap.1 hx
  unfold selG at hx
  split at hx
  ·simp at hx
  ·exact ⟨q,hq,List.mem_singleton.1 hx⟩
 refine ⟨fun x hx=>?_,fun x hx=>?_,fun x hx=>?_,fun x hx=>?_,?_⟩
 ·obtain ⟨q,hq,rfl⟩:=hm x hx; exact h.valid q hq
 ·obtain ⟨q,hq,rfl⟩:=hm x hx; exact h.width q hq
 ·obtain ⟨q,hq,rfl⟩:=hm x hx; exact h.inN q hq
 ·obtain ⟨q,hq,rfl⟩:=hm x hx; exact h.srt q hq
 ·have:=sumW_le 400 (selG p) m fun q hq=>by
   unfold selG
   split
   ·simp [sumW]
   ·rw [sumW_one]; exact h.few q hq
  have:=h.len; omega
theorem proj_adds {n c:Nat} {m:AM} (p:Plan) (h:Clo n c m) (hc:∀ x ∈ p.cols,0 ≤ x∧x.toNat < c):Adds n p.cols.length (m.flatMap (projG p)):=by
 have hm:∀ x ∈ m.flatMap (projG p),∃ q ∈ m,x = (projR q.2.row p.cols,q.2.ways):=by
  intro x hx
  obtain ⟨q,hq,hx⟩:=List.mem_flatMap.1 hx
  exact ⟨q,hq,List.mem_singleton.1 hx⟩
 refine ⟨fun x hx=>?_,fun x hx=>?_,fun x hx=>?_,fun x hx=>?_,?_⟩
 ·obtain ⟨q,hq,rfl⟩:=hm x hx
  intro v hv
  obtain ⟨y,hy,rfl⟩:=List.mem_map.1 hv
  have h1:=(hc y hy).2
  have hw:=h.width q hq
  have:q.2.row.getD y.toNat V.zero = q.2.row[y.toNat]:=by simp [hw,h1]
  rw [this]
  exact h.valid q hq _ (List.getElem_mem (by omega))
 ·obtain ⟨q,hq,rfl⟩:=hm x hx; simp [projR]
 ·obtain ⟨q,hq,rfl⟩:=hm x hx; exact h.inN q hq
 ·obtain ⟨q,hq,rfl⟩:=hm x hx; exact h.srt q hq
 ·have:=sumW_le 400 (projG p) m fun q hq=>by rw [projG,sumW_one]; exact h.few q hq
  have:=h.len; omega
theorem minusL_few:∀ (ys l l':List W),minusL l ys = some l'→l.length ≤ 400→l'.length ≤ 400
 | [],l,l',h,h4=>by simp only [minusL,Option.some.injEq] at h; subst h; exact h4
 | y :: ys,l,l',h,h4=>by
  simp only [minusL] at h
  split at h
  ·rename_i h1; exact minusL_few ys _ l' h h1
  ·cases h
theorem minusL_in {n:Nat}:∀ (ys l l':List W),minusL l ys = some l'→(∀ w ∈ l,inW n w)→(∀ w ∈ ys,inW n w)→∀ w ∈ l',inW n w
 | [],l,l',h,hl,_=>by simp only [minusL,Option.some.injEq] at h; subst h; exact hl
 | y :: ys,l,l',h,hl,hy=>by
  simp only [minusL] at h
  split at h
  ·refine minusL_in ys _ l' h (inW_min (inW_both hl fun w hw=>?_)) fun w hw=>hy w (List.mem_cons_of_mem _ hw)
   have hyy:=hy y (List.mem_cons_self ..)
   simp only [notW,List.mem_append,List.mem_map] at hw
   rcases hw with ⟨v,hv,rfl⟩ | ⟨v,hv,rfl⟩
   ·exact ⟨fun z hz=>by simp [negW] at hz,fun z hz=>by simp [negW] at hz; subst hz; exact hyy.1 _ hv⟩
   ·exact ⟨fun z hz=>by simp [posW] at hz; subst hz; exact hyy.2 _ hv,fun z hz=>by simp [posW] at hz⟩
  ·cases h
theorem minusL_srt:∀ (ys l l':List W),minusL l ys = some l'→(∀ w ∈ l,sortedW w)→∀ w ∈ l',sortedW w
 | [],l,l',h,hl=>by simp only [minusL,Option.some.injEq] at h; subst h; exact hl
 | y :: ys,l,l',h,hl=>by
  simp only [minusL] at h
  split at h
  ·exact minusL_srt ys _ l' h fun w hw=>minW_sorted hw
  ·cases h
theorem waysAt_in {m:AM} {x:ByteArray} {l:List W} (h:waysAt x m = some l):∃ q ∈ m,q.1 = x∧q.2.ways = l:=by
 induction m with
 | nil=>cases h
 | cons q m ih=>
  obtain ⟨y,a⟩:=q
  simp only [waysAt] at h
  split at h
  ·rename_i e; cases h; exact ⟨(y,a),List.mem_cons_self ..,e,rfl⟩
  ·obtain ⟨q,hq,h2⟩:=ih h; exact ⟨q,List.mem_cons_of_mem _ hq,h2⟩
theorem minusQ_ok {n c d:Nat} {m1 m2:AM} (h1:Clo n c m1) (h2:Clo n d m2) {q:ByteArray × Ans} (hq:q ∈ m1):((minusQ m2 q).getD []).length ≤ 400∧∀ w ∈ (minusQ m2 q).getD [],inW n w:=by
 cases e:minusQ m2 q with
 | none=>simp
 | some l=>
  unfold minusQ at e
  refine ⟨minusL_few _ _ _ e (h1.few q hq),minusL_in _ _ _ e (h1.inN q hq) fun w hw=>?_⟩
  cases e2:waysAt q.1 m2 with
  | none=>rw [e2] at hw; simp at hw
  | some l2=>
   rw [e2] at hw
   obtain ⟨q2,hq2,_,rfl⟩:=waysAt_in e2
   exact h2.inN q2 hq2 w hw
theorem minus_adds {n c d:Nat} {m1 m2:AM} (h1:Clo n c m1) (h2:Clo n d m2):Adds n c (m1.flatMap (minusG m2)):=by
 have hm:∀ x ∈ m1.flatMap (minusG m2),∃ q ∈ m1,x = (q.2.row,(minusQ m2 q).getD []):=by
  intro x hx
  obtain ⟨q,hq,hx⟩:=List.mem_flatMap.1 hx
  exact ⟨q,hq,List.mem_singleton.1 hx⟩
 refine ⟨fun x hx=>?_,fun x hx=>?_,fun x hx=>?_,fun x hx=>?_,?_⟩
 ·obtain ⟨q,hq,rfl⟩:=hm x hx; exact h1.valid q hq
 ·obtain ⟨q,hq,rfl⟩:=hm x hx; exact h1.width q hq
 ·obtain ⟨q,hq,rfl⟩:=hm x hx; exact (minusQ_ok h1 h2 hq).2
 ·obtain ⟨q,hq,rfl⟩:=hm x hx
  cases e:minusQ m2 q with
  | none=>simp
  | some l=>exact minusL_srt _ _ _ e (h1.srt q hq)
 ·have:=sumW_le 400 (minusG m2) m1 fun q hq=>by rw [minusG,sumW_one]; exact (minusQ_ok h1 h2 hq).1
  have:=h1.len; omega
theorem joinK_width {la:List Attr} {x:List V} (hx:x.length = la.length):∀ (bs:List Attr) (ys:List V) (out out':List V) (o l:List Attr),ys.length = bs.length→joinK la x (bs.zip ys) out = some out'→joinA la o bs = some l→out.length = o.length→out'.length = l.length
 | [],[],out,out',o,l,_,h,hj,e=>by simp [joinK] at h; simp [joinA] at hj; subst h; subst hj; exact e
 | b :: bs,y :: ys,out,out',o,l,hy,h,hj,e=>by
  simp only [List.zip_cons_cons,joinK] at h
  simp only [joinA] at hj
  have hfind:(findA la b.name = none ↔ colA la b.name < 0):=by
   unfold findA colA idxP
   have:(fun a:Attr=>decide (a.name = b.name)) = fun t=>eqS t.name b.name:=by
    funext a
    by_cases h:a.name = b.name
    ·simp [h,(eqS_iff b.name b.name).2 rfl]
    ·have:eqS a.name b.name = false:=by
      cases h2:eqS a.name b.name with
      | false=>rfl
      | true=>exact (h ((eqS_iff _ _).1 h2)).elim
     simp [h,this]
   rw [this]
   cases la.findIdx? (fun t=>eqS t.name b.name) with
   | none=>simp
   | some i=>simp <;> omega
  cases hf:findA la b.name with
  | none=>
   rw [hf] at h
   rw [if_pos (hfind.1 hf)] at hj
   exact joinK_width hx bs ys _ out' _ l (by simpa using hy) h hj (by simp [e])
  | some k=>
   rw [hf] at h
   have hc:¬ colA la b.name < 0:=fun hc=>by rw [hfind.2 hc] at hf; cases hf
   rw [if_neg hc] at hj
   split at hj
   ·cases hj
   ·simp only at h
    split at h
    ·exact joinK_width hx bs ys _ out' _ l (by simpa using hy) h hj e
    ·cases h
theorem joinK_valid {la:List Attr} {x:List V}:∀ (l:List (Attr × V)) (out out':List V),joinK la x l out = some out'→validR out→(∀ p ∈ l,validV p.2 = true)→validR out'
 | [],out,out',h,ho,_=>by simp [joinK] at h; subst h; exact ho
 | (a,v) :: l,out,out',h,ho,hl=>by
  have hl2:=fun p hp=>hl p (List.mem_cons_of_mem _ hp)
  simp only [joinK] at h
  split at h
  ·split at h
   ·exact joinK_valid l out out' h ho hl2
   ·cases h
  ·refine joinK_valid l _ out' h (fun u hu=>?_) hl2
   rcases List.mem_append.1 hu with hu | hu
   ·exact ho u hu
   ·rw [List.mem_singleton.1 hu]; exact hl (a,v) (List.mem_cons_self ..)
theorem insBy_len {α:Type} (c:α→α→Int) (x:α):∀ l:List α,(insBy c x l).length ≤ l.length + 1
 | []=>by simp [insBy]
 | y :: l=>by
  have:=insBy_len c x l
  simp only [insBy]
  repeat' split
  all_goals simp <;> omega
theorem sortBy_len {α:Type} (c:α→α→Int):∀ l:List α,(sortBy c l).length ≤ l.length
 | []=>by simp [sortBy]
 | x :: l=>by
  have h1:=sortBy_len c l
  have h2:=insBy_len c x (sortBy c l)
  simp only [sortBy,List.foldr_cons,List.length_cons] at *; omega
theorem minW_length (l:List W):(minW l).length ≤ l.length:=
 Nat.le_trans (sortBy_len _ _) (Nat.le_trans (List.length_filter_le _ _) (norms_len l))
theorem join_adds {n:Nat} {la lb l:List Attr} {m1 m2:AM} (h1:Clo n la.length m1) (h2:Clo n lb.length m2) (hj:joinA la la lb = some l):Adds n l.length (m1.flatMap fun q=>m2.flatMap (joinG la lb q)):=by
 have hm:∀ x ∈ m1.flatMap fun q=>m2.flatMap (joinG la lb q),∃ q1 ∈ m1,∃ q2 ∈ m2,∃ row,joinR la lb q1.2.row q2.2.row = some row∧x = (row,minW (bothL q1.2.ways q2.2.ways)):=by
  intro x hx
  obtain ⟨q1,hq1,hx⟩:=List.mem_flatMap.1 hx
  obtain ⟨q2,hq2,hx⟩:=List.mem_flatMap.1 hx
  unfold joinG at hx
  split at hx
  ·rename_i row hr; exact ⟨q1,hq1,q2,hq2,row,hr,List.mem_singleton.1 hx⟩
  ·simp at hx
 refine ⟨fun x hx=>?_,fun x hx=>?_,fun x hx=>?_,fun x hx=>?_,?_⟩
 ·obtain ⟨q1,hq1,q2,hq2,row,hr,rfl⟩:=hm x hx
  refine joinK_valid _ _ _ hr (h1.valid q1 hq1) fun p hp=>?_
  exact h2.valid q2 hq2 p.2 (List.of_mem_zip hp).2
 ·obtain ⟨q1,hq1,q2,hq2,row,hr,rfl⟩:=hm x hx
  exact joinK_width (h1.width q1 hq1) lb q2.2.row _ _ _ _ (h2.width q2 hq2) hr hj (h1.width q1 hq1)
 ·obtain ⟨q1,hq1,q2,hq2,row,hr,rfl⟩:=hm x hx
  exact inW_min (inW_both (h1.inN q1 hq1) (h2.inN q2 hq2))
 ·obtain ⟨q1,hq1,q2,hq2,row,hr,rfl⟩:=hm x hx
  exact fun w hw=>minW_sorted hw
 ·have hin:∀ q1 ∈ m1,sumW (m2.flatMap (joinG la lb q1)) ≤ 160000000:=by
   intro q1 hq1
   have:=sumW_le 160000 (joinG la lb q1) m2 fun q2 hq2=>by
    unfold joinG
    split
    ·rw [sumW_one]
     refine Nat.le_trans (minW_length _) ?_
     rw [bothL_len]
     exact Nat.le_trans (Nat.mul_le_mul (h1.few q1 hq1) (h2.few q2 hq2)) (by decide)
    ·simp [sumW]
   have:=h2.len; omega
  have:=sumW_le 160000000 (fun q1=>m2.flatMap (joinG la lb q1)) m1 hin
  have:=h1.len; omega
theorem kid_adds {tl:List Tbl} {facts:List Fct} (hf:factsOk tl facts) {n:Nat} {p:Plan} (hs:Shape tl n p) {ms:List AM} (hl:ms.length = p.kids.length) (hc:∀ i (h:i < p.kids.length) (h2:i < ms.length),Clo facts.length p.kids[i].attrs.length ms[i]) {L:AddL} (h:kidAdds p facts ms = some L):
  Adds facts.length p.attrs.length L:=by
 unfold kidAdds at h
 cases hs with
 | table hk hks h0 h1 hl'=>
  rw [if_pos hk] at h; cases h
  rw [hl']; exact tabAdds_ok hf h0 h1
 | sel hk q hks hq hsv hl'=>
  rw [if_neg (by omega),hks] at h
  rw [hks] at hl
  obtain ⟨m,rfl⟩:=List.length_eq_one_iff.1 hl
  have c:=hc 0 (by rw [hks]; simp) (by simp)
  simp only [hks,List.getElem_cons_zero] at c
  simp only at h
  rw [if_pos hk] at h; cases h
  rw [hl']; exact sel_adds p c
 | proj hk q hks hq hcc hl'=>
  rw [if_neg (by omega),hks] at h
  rw [hks] at hl
  obtain ⟨m,rfl⟩:=List.length_eq_one_iff.1 hl
  have c:=hc 0 (by rw [hks]; simp) (by simp)
  simp only [hks,List.getElem_cons_zero] at c
  simp only at h
  rw [if_neg (by omega),if_pos hk] at h; cases h
  rw [hl']; exact proj_adds p c hcc
 | ren hk q hks hq hl'=>
  rw [if_neg (by omega),hks] at h
  rw [hks] at hl
  obtain ⟨m,rfl⟩:=List.length_eq_one_iff.1 hl
  have c:=hc 0 (by rw [hks]; simp) (by simp)
  simp only [hks,List.getElem_cons_zero] at c
  simp only at h
  rw [if_neg (by omega),if_neg (by omega)] at h; cases h
  rw [hl']; exact clo_adds c
 | join hk q r hks hq hr hn hj=>
  rw [if_neg (by omega),hks] at h
  rw [hks] at hl
  obtain ⟨m1,m2,rfl⟩:=two_of hl
  have c1:=hc 0 (by rw [hks]; simp) (by simp)
  have c2:=hc 1 (by rw [hks]; simp) (by simp)
  simp only [hks,List.getElem_cons_zero,List.getElem_cons_succ] at c1 c2
  simp only at h
  rw [if_pos hk] at h; cases h
  obtain ⟨l,hj1,hj2⟩:=hj
  rw [hj2]; exact join_adds c1 c2 hj1
 | union hk q r hks hq hr hl1 hl2=>
  rw [if_neg (by omega),hks] at h
  rw [hks] at hl
  obtain ⟨m1,m2,rfl⟩:=two_of hl
  have c1:=hc 0 (by rw [hks]; simp) (by simp)
  have c2:=hc 1 (by rw [hks]; simp) (by simp)
  simp only [hks,List.getElem_cons_zero,List.getElem_cons_succ] at c1 c2
  simp only at h
  rw [if_neg (by omega),if_pos hk] at h; cases h
  rw [← hl1] at c1; rw [← hl2] at c2
  exact union_adds c1 c2
 | minus hk q r hks hq hr hl1 hl2=>
  rw [if_neg (by omega),hks] at h
  rw [hks] at hl
  obtain ⟨m1,m2,rfl⟩:=two_of hl
  have c1:=hc 0 (by rw [hks]; simp) (by simp)
  have c2:=hc 1 (by rw [hks]; simp) (by simp)
  simp only [hks,List.getElem_cons_zero,List.getElem_cons_succ] at c1 c2
  simp only at h
  rw [if_neg (by omega),if_neg (by omega)] at h
  split at h
  ·cases h
   rw [hl1]; exact minus_adds c1 c2
  ·cases h
theorem grp_kids {p:Plan} (h:grp p = false):p.kind ≠ 8∧∀ q ∈ p.kids,grp q = false:=by
 rw [grp_eq] at h
 simp only [Bool.or_eq_false_iff,beq_eq_false_iff_ne,List.any_eq_false] at h
 exact ⟨h.1,fun q hq=>by simpa using h.2 q hq⟩
theorem Shape.kids {tl:List Tbl} {n:Nat} {p:Plan} (h:Shape tl n p):∀ q ∈ p.kids,validB n tl q = true:=by
 cases h with
 | table _ hks=>rw [hks]; simp
 | sel _ q hks hq=>rw [hks]; simpa using hq
 | proj _ q hks hq=>rw [hks]; simpa using hq
 | ren _ q hks hq=>rw [hks]; simpa using hq
 | join _ q r hks hq hr=>rw [hks]; simp [hq,hr]
 | union _ q r hks hq hr=>rw [hks]; simp [hq,hr]
 | minus _ q r hks hq hr=>rw [hks]; simp [hq,hr]
theorem evN_clo {tl:List Tbl} {facts:List Fct} (hf:factsOk tl facts):∀ (n:Nat) (p:Plan) (m:AM),validB n tl p = true→grp p = false→EvN facts n p m→Clo facts.length p.attrs.length m
 | 0,_,_,_,_,h=>h.elim
 | n + 1,p,m,hv,hg,⟨ms,hl,hk,L0,L,h0,hp,hc,hm⟩=>by
  obtain ⟨h8,hgk⟩:=grp_kids hg
  have hs:=valid_shape hv h8
  have hkc:∀ i (h:i < p.kids.length) (h2:i < ms.length),Clo facts.length p.kids[i].attrs.length ms[i]:=fun i h h2=>
   evN_clo hf n _ _ (hs.kids _ (List.getElem_mem h)) (hgk _ (List.getElem_mem h)) (hk i h h2)
  have:=(kid_adds hf hs hl hkc h0).perm hp.symm
  rw [hm]; exact this.clo hc
theorem runA_self {n c:Nat} {m:AM} (h:Clo n c m):runA (addsM m) = m:=by
 have:∀ (l:AM),(l.map (·.1)).Nodup→(∀ q ∈ l,q.1 = rowB q.2.row)→runA (addsM l) = l:=by
  intro l
  induction hl:l.length generalizing l with
  | zero=>intro _ _; rw [List.length_eq_zero_iff.1 hl]; rfl
  | succ k ih=>
   intro hn hq
   rcases List.eq_nil_or_concat l with rfl | ⟨l',q,rfl⟩
   ·simp at hl
   ·simp only [List.concat_eq_append] at hl hn hq ⊢
    simp only [List.map_append,List.map_cons,List.map_nil] at hn
    have hn':=List.nodup_append.1 hn
    have e:addsM (l' ++ [q]) = addsM l' ++ [(q.2.row,q.2.ways)]:=by simp
    rw [e,runA_snoc,ih l' (by simpa using hl) hn'.1 (fun x hx=>hq x (List.mem_append_left _ hx))]
    have hqn:=hq q (by simp)
    rw [addL_none (fun x hx e2=>hn'.2.2 x.1 (List.mem_map.2 ⟨x,hx,rfl⟩) q.1 (by simp) (by rw [e2]; exact hqn.symm))]
    rw [← hqn]
 exact this m h.nodup h.name
end Go.Proofs.YtjbhhddfaohdnaaGreatDoor
end
section
namespace Go.Proofs.YtjbhhddfaohdnaaGreatDoor
def lexL {α:Type} (c:α→α→Int):List α→List α→Int
 | [],[]=>0
 | [],_ :: _=>-1
 | _ :: _,[]=>1
 | x :: l,y :: m=>if c x y ≠ 0 then c x y else lexL c l m
theorem order_lex {α:Type} {c:α→α→Int} (hc:Order c):Order (lexL c) where
 eq:=by
  intro a
  induction a with
  | nil=>intro b; cases b <;> simp [lexL]
  | cons x l ih=>
   intro b
   cases b with
   | nil=>simp [lexL]
   | cons y m=>
    simp only [lexL,List.cons.injEq]
    split
    ·rename_i h; constructor
     ·intro h'; exact (h h').elim
     ·rintro ⟨rfl,_⟩; exact (h ((hc.eq _ _).2 rfl)).elim
    ·rename_i h
     have h:c x y = 0:=by simpa using h
     rw [ih]; have:=(hc.eq x y).1 h; simp [this]
 flip:=by
  intro a
  induction a with
  | nil=>intro b; cases b <;> simp [lexL]
  | cons x l ih=>
   intro b
   cases b with
   | nil=>simp [lexL]
   | cons y m=>
    simp only [lexL]
    by_cases h:c x y = 0
    ·have e:=(hc.eq x y).1 h; subst e
     simp [h,ih]
    ·have h':c y x ≠ 0:=fun e=>h ((hc.eq _ _).2 ((hc.eq _ _).1 e).symm)
     rw [if_pos h,if_pos h']; exact hc.flip x y
 trans:=by
  intro a
  induction a with
  | nil=>intro b d; cases b <;> cases d <;> simp [lexL]
  | cons x l ih=>
   intro b d
   cases b with
   | nil=>simp [lexL]
   | cons y m=>
    cases d with
    | nil=>simp [lexL]
    | cons z n=>
     simp only [lexL]
     by_cases h1:c x y = 0
     ·have e:=(hc.eq x y).1 h1; subst e
      by_cases h2:c x z = 0
      ·simp only [h1,h2,ne_eq,not_true_eq_false,if_false]; exact ih m n
      ·simp only [h1,h2,ne_eq,not_true_eq_false,if_false,not_false_eq_true,if_true]; exact fun _ h=>h
     ·by_cases h2:c y z = 0
      ·have e:=(hc.eq y z).1 h2; subst e
       simp only [h1,h2,ne_eq,not_true_eq_false,if_false,not_false_eq_true,if_true]; exact fun h _=>h
      ·simp only [h1,h2,ne_eq,not_false_eq_true,if_true]
       intro h3 h4
       have h5:=hc.trans x y z h3 h4
       rw [if_pos (by omega)]; exact h5
theorem cmpR_lex (a b:List V):cmpR a b = lexL cmpV a b:=by
 induction a generalizing b with
 | nil=>cases b <;> rfl
 | cons x l ih=>cases b with
  | nil=>rfl
  | cons y m=>simp only [cmpR,lexL,ih]
theorem lessS_irrefl (a:ByteArray):lessS a a = false:=by simp [lessS,List.lt_irrefl]
theorem lessS_trans {a b d:ByteArray} (h1:lessS a b = true) (h2:lessS b d = true):lessS a d = true:=by
 simp only [lessS,decide_eq_true_eq] at *; exact List.lt_trans h1 h2
theorem lessS_total {a b:ByteArray} (h1:lessS a b = false) (h2:lessS b a = false):a = b:=by
 simp only [lessS,decide_eq_false_iff_not] at h1 h2
 have:=List.le_antisymm (List.not_lt.1 h2) (List.not_lt.1 h1)
 cases a; cases b
 simpa using Array.toList_inj.1 this
theorem order_cmpS:Order cmpS where
 eq a b:=by
  unfold cmpS
  by_cases h1:lessS a b = true
  ·simp only [h1,if_true]
   constructor
   ·intro h; omega
   ·rintro rfl; rw [lessS_irrefl] at h1; cases h1
  ·simp only [h1]
   by_cases h2:lessS b a = true
   ·simp only [h2,if_true]
    constructor
    ·intro h; simp at h
    ·rintro rfl; rw [lessS_irrefl] at h2; cases h2
   ·simp [h2]
    exact lessS_total (by simpa using h1) (by simpa using h2)
 flip a b:=by
  unfold cmpS
  have:lessS a b = true→lessS b a = true→False:=fun h1 h2=>by have:=lessS_trans h1 h2; rw [lessS_irrefl] at this; cases this
  cases h1:lessS a b <;> cases h2:lessS b a <;> simp_all
 trans a b d:=by
  unfold cmpS
  cases h1:lessS a b <;> cases h2:lessS b d <;> simp
  ·split <;> simp
  ·split <;> simp
  ·split <;> simp
  ·rw [lessS_trans h1 h2]; simp
theorem order_cmpV:Order cmpV:=by
 have h2:Order (fun a b:Int × ByteArray=>if cmpI a.1 b.1 = 0 then cmpS a.2 b.2 else cmpI a.1 b.1):=by
  refine order_or (c:=fun a b:Int × ByteArray=>cmpI a.1 b.1) (d:=fun a b:Int × ByteArray=>cmpS a.2 b.2) (fun a=>(order_cmpI.eq _ _).2 rfl) (fun a b=>order_cmpI.flip _ _) (fun a b e=>order_cmpI.trans _ _ _) (fun a b e h=>?_) (fun a b h=>?_) (fun a b=>order_cmpS.flip _ _) (fun a b e=>order_cmpS.trans _ _ _)
  ·have:=(order_cmpI.eq _ _).1 h; simp [this]
  ·have h:=(order_cmpI.eq _ _).1 h
   rw [order_cmpS.eq]; cases a; cases b; simp at h ⊢; simp [h]
 have h3:Order (fun a b:V=>if cmpI a.kind b.kind = 0 then (if cmpI a.n b.n = 0 then cmpS a.text b.text else cmpI a.n b.n) else cmpI a.kind b.kind):=by
  refine order_or (c:=fun a b:V=>cmpI a.kind b.kind) (d:=fun a b:V=>if cmpI a.n b.n = 0 then cmpS a.text b.text else cmpI a.n b.n) (fun a=>(order_cmpI.eq _ _).2 rfl) (fun a b=>order_cmpI.flip _ _) (fun a b e=>order_cmpI.trans _ _ _) (fun a b e h=>?_) (fun a b h=>?_) (fun a b=>h2.flip (a.n,a.text) (b.n,b.text)) (fun a b e=>h2.trans (a.n,a.text) (b.n,b.text) (e.n,e.text))
  ·have:=(order_cmpI.eq _ _).1 h; simp [this]
  ·have h:=(order_cmpI.eq _ _).1 h
   have:=h2.eq (a.n,a.text) (b.n,b.text)
   dsimp only at this
   rw [this]; cases a; cases b; simp at h ⊢; simp [h]
 have:cmpV = fun a b:V=>if cmpI a.kind b.kind = 0 then (if cmpI a.n b.n = 0 then cmpS a.text b.text else cmpI a.n b.n) else cmpI a.kind b.kind:=by
  funext a b; simp only [cmpV,ne_eq,ite_not]
 rw [this]; exact h3
theorem order_cmpR:Order cmpR:=by
 have:cmpR = lexL cmpV:=by funext a b; exact cmpR_lex a b
 rw [this]; exact order_lex order_cmpV
end Go.Proofs.YtjbhhddfaohdnaaGreatDoor
end
section
namespace Go.Proofs.YtjbhhddfaohdnaaGreatDoor
open Go Go.Abs Go.Proofs
theorem cut_at {s:UInt8}:∀ {a b A B:List UInt8},s ∉ a→s ∉ b→a ++ s :: A = b ++ s :: B→a = b∧A = B
 | [],[],A,B,_,_,h=>⟨rfl,by simpa using h⟩
 | [],y :: b,A,B,_,hb,h=>by simp only [List.nil_append,List.cons_append,List.cons.injEq] at h; exact (hb (by rw [h.1]; exact List.mem_cons_self ..)).elim
 | x :: a,[],A,B,ha,_,h=>by simp only [List.nil_append,List.cons_append,List.cons.injEq] at h; exact (ha (by rw [h.1]; exact List.mem_cons_self ..)).elim
 | x :: a,y :: b,A,B,ha,hb,h=>by
  simp only [List.cons_append,List.cons.injEq] at h
  obtain ⟨e1,e2⟩:=cut_at (fun m=>ha (List.mem_cons_of_mem _ m)) (fun m=>hb (List.mem_cons_of_mem _ m)) h.2
  exact ⟨by rw [h.1,e1],e2⟩
def dval (l:List UInt8):Nat:=l.foldl (fun a c=>a * 10 + (c.toNat - 48)) 0
theorem digit_nat {u:Nat} (h:u < 10):(UInt8.ofNat (48 + u)).toNat = 48 + u:=by
 rw [UInt8.toNat_ofNat']; omega
theorem dval_dec (u:Nat):dval (Lib.decDigits u) = u:=by
 induction u using Nat.strongRecOn with
 | _ u ih=>
  by_cases h:u < 10
  ·rw [Lib.decDigits,dif_pos h]
   simp only [dval,List.foldl_cons,List.foldl_nil,digit_nat h]; omega
  ·rw [Lib.decDigits,dif_neg h]
   have:=ih (u / 10) (by omega)
   unfold dval at this ⊢
   rw [List.foldl_append,this]
   simp only [List.foldl_cons,List.foldl_nil,digit_nat (Nat.mod_lt u (by decide:0 < 10))]; omega
theorem dec_rng (u:Nat):∀ c ∈ Lib.decDigits u,48 ≤ c.toNat∧c.toNat ≤ 57:=by
 induction u using Nat.strongRecOn with
 | _ u ih=>
  intro c hc
  by_cases h:u < 10
  ·rw [Lib.decDigits,dif_pos h] at hc
   rw [List.mem_singleton.1 hc,digit_nat h]; omega
  ·rw [Lib.decDigits,dif_neg h] at hc
   rcases List.mem_append.1 hc with hc | hc
   ·exact ih (u / 10) (by omega) c hc
   ·have:=Nat.mod_lt u (by decide:0 < 10)
    rw [List.mem_singleton.1 hc,digit_nat this]; omega
theorem dec_ne (u:Nat):Lib.decDigits u ≠ []:=by
 by_cases h:u < 10
 ·rw [Lib.decDigits,dif_pos h]; simp
 ·rw [Lib.decDigits,dif_neg h]; simp
theorem itoa_rng {n:Int} {c:UInt8} (hc:c ∈ Lib.itoa n):c.toNat = 45 ∨ (48 ≤ c.toNat∧c.toNat ≤ 57):=by
 unfold Lib.itoa at hc
 split at hc
 ·rcases List.mem_cons.1 hc with rfl | hc
  ·exact .inl rfl
  ·exact .inr (dec_rng _ c hc)
 ·exact .inr (dec_rng _ c hc)
theorem itoa_head (n:Int):∃ c l,Lib.itoa n = c :: l∧(c.toNat = 45 ∨ (48 ≤ c.toNat∧c.toNat ≤ 57)):=by
 cases h:Lib.itoa n with
 | nil=>
  unfold Lib.itoa at h
  split at h
  ·cases h
  ·exact (dec_ne _ h).elim
 | cons c l=>exact ⟨c,l,rfl,itoa_rng (n:=n) (by rw [h]; exact List.mem_cons_self ..)⟩
theorem itoa_inj {n m:Int} (h:Lib.itoa n = Lib.itoa m):n = m:=by
 have hd:∀ u l,Lib.decDigits u = 45 :: l→False:=fun u l e=>by
  have:=dec_rng u 45 (by rw [e]; exact List.mem_cons_self ..)
  have h45:(45:UInt8).toNat = 45:=rfl
  omega
 unfold Lib.itoa at h
 split at h
 ·split at h
  ·have:=congrArg dval (List.cons.inj h).2
   rw [dval_dec,dval_dec] at this; omega
  ·exact (hd _ _ h.symm).elim
 ·split at h
  ·exact (hd _ _ h).elim
  ·have:=congrArg dval h
   rw [dval_dec,dval_dec] at this; omega
theorem itoa_no32 (n:Int):(32:UInt8) ∉ Lib.itoa n:=fun h=>by
 have:=itoa_rng h
 have h32:(32:UInt8).toNat = 32:=rfl
 omega
theorem replB_cut {c d:UInt8} {X Y:List UInt8} (h:replB c ++ X = replB d ++ Y):c = d∧X = Y:=by
 unfold replB at h
 repeat' split at h
 all_goals (simp only [List.cons_append,List.nil_append,List.cons.injEq] at h)
 all_goals first
  | (obtain ⟨h1,h2⟩:=h; exact ⟨h1,h2⟩)
  | (obtain ⟨_,h1,h2⟩:=h; first | exact ⟨by simp_all,h2⟩ | (exact absurd h1 (by decide)))
  | simp_all
theorem replB_head (c:UInt8):∃ d l,replB c = d :: l∧d ≠ 34:=by
 unfold replB
 repeat' split
 ·exact ⟨92,_,rfl,by decide⟩
 ·exact ⟨92,_,rfl,by decide⟩
 ·exact ⟨92,_,rfl,by decide⟩
 ·exact ⟨c,_,rfl,by assumption⟩
theorem replL_cons (c:UInt8) (l:List UInt8):replL (c :: l) = replB c ++ replL l:=rfl
theorem replL_cut:∀ {a b A B:List UInt8},replL a ++ 34 :: A = replL b ++ 34 :: B→a = b∧A = B
 | [],[],A,B,h=>⟨rfl,by simpa [replL] using h⟩
 | [],y :: b,A,B,h=>by
  obtain ⟨d,l,e,hd⟩:=replB_head y
  rw [replL_cons,e] at h
  simp only [replL,List.flatMap_nil,List.nil_append,List.cons_append,List.append_assoc,List.cons.injEq] at h
  exact (hd h.1.symm).elim
 | x :: a,[],A,B,h=>by
  obtain ⟨d,l,e,hd⟩:=replB_head x
  rw [replL_cons,e] at h
  simp only [replL,List.flatMap_nil,List.nil_append,List.cons_append,List.append_assoc,List.cons.injEq] at h
  exact (hd h.1).elim
 | x :: a,y :: b,A,B,h=>by
  rw [replL_cons,replL_cons,List.append_assoc,List.append_assoc] at h
  obtain ⟨e1,e2⟩:=replB_cut h
  obtain ⟨e3,e4⟩:=replL_cut e2
  exact ⟨by rw [e1,e3],e4⟩
theorem text_empty {s:ByteArray} (h:s.size = 0):s = ByteArray.empty:=by
 obtain ⟨⟨l⟩⟩:=s
 have:l = []:=List.length_eq_zero_iff.1 h
 subst this; rfl
inductive VForm:V→List UInt8→Prop
 | null:VForm ⟨0,0,ByteArray.empty⟩ [110,117,108,108]
 | text (t:ByteArray):VForm ⟨1,0,t⟩ (34 :: (replL (bytes t) ++ [34]))
 | num (n:Int):VForm ⟨2,n,ByteArray.empty⟩ (Lib.itoa n)
 | date (n:Int):VForm ⟨3,n,ByteArray.empty⟩ (64 :: Lib.itoa n)
 | no:VForm ⟨4,0,ByteArray.empty⟩ [102,97,108,115,101]
 | yes:VForm ⟨4,1,ByteArray.empty⟩ [116,114,117,101]
theorem fmt_true:Lib.formatBool true = [116,114,117,101]:=by decide +kernel
theorem fmt_false:Lib.formatBool false = [102,97,108,115,101]:=by decide +kernel
theorem vform {v:V} (h:validV v = true):VForm v (bytes (textV v)):=by
 unfold textV
 rw [h]
 simp only [Bool.not_true,Bool.false_eq_true,if_false]
 obtain ⟨k,n,t⟩:=v
 unfold validV inR at h
 simp only at h ⊢
 by_cases h1:k = 1
 ·subst h1
  simp at h
  have:n = 0:=by omega
  subst this
  simp only [if_true,quoteB,bytes]
  exact .text t
 rw [if_neg h1]
 by_cases ht:t.size = 0
 ·obtain rfl:=text_empty ht
  rw [if_neg (by simp [ht])] at h
  by_cases h2:k = 2
  ·subst h2; simp only [if_true,bytes]; exact .num n
  by_cases h3:k = 3
  ·subst h3; simp only [bytes]; exact .date n
  by_cases h4:k = 4
  ·subst h4
   simp at h
   have:n = 0 ∨ n = 1:=by omega
   rcases this with rfl | rfl
   ·simp only [bytes]
    have e:((0:Int) == 1) = false:=rfl
    rw [e,fmt_false]; exact .no
   ·simp only [bytes]
    have e:((1:Int) == 1) = true:=rfl
    rw [e,fmt_true]; exact .yes
  ·rw [if_neg h2,if_neg h3,if_neg h4]
   by_cases h0:k = 0
   ·subst h0
    simp at h
    have:n = 0:=by omega
    subst this
    exact .null
   ·simp [h0,h1,h2,h3,h4] at h
 ·rw [if_pos ⟨h1,ht⟩] at h; cases h
theorem form_cut {u v:V} {a b A B:List UInt8} (hu:VForm u a) (hv:VForm v b) (h:a ++ 32 :: A = b ++ 32 :: B):u = v∧A = B:=by
 have hi:∀ {n:Int} {A:List UInt8} {d:UInt8} {l:List UInt8},d.toNat ≠ 45→¬ (48 ≤ d.toNat∧d.toNat ≤ 57)→Lib.itoa n ++ A = d :: l→False:=by
  intro n A d l h1 h2 h3
  obtain ⟨c,m,e,hc⟩:=itoa_head n
  rw [e] at h3
  simp only [List.cons_append,List.cons.injEq] at h3
  rw [h3.1] at hc; omega
 cases hu <;> cases hv
 all_goals try simp only [List.cons_append,List.nil_append,List.append_assoc,List.cons.injEq] at h
 all_goals first
  | exact (hi (by decide) (by decide) h).elim
  | exact (hi (by decide) (by decide) h.symm).elim
  | (exact absurd h.1 (by decide))
  | skip
 ·exact ⟨rfl,by simpa using h⟩
 ·obtain ⟨e1,e2⟩:=replL_cut h.2
  refine ⟨?_,by simpa using e2⟩
  rw [bytes_inj e1]
 ·obtain ⟨e1,e2⟩:=cut_at (itoa_no32 _) (itoa_no32 _) h
  exact ⟨by rw [itoa_inj e1],e2⟩
 ·obtain ⟨e1,e2⟩:=cut_at (itoa_no32 _) (itoa_no32 _) h.2
  exact ⟨by rw [itoa_inj e1],e2⟩
 ·exact ⟨rfl,by simpa using h⟩
 ·exact ⟨rfl,by simpa using h⟩
theorem rowN_inj:∀ {a b:List V},validR a→validR b→rowN a = rowN b→a = b
 | [],[],_,_,_=>rfl
 | [],v :: b,_,_,h=>by simp [rowN] at h
 | v :: a,[],_,_,h=>by simp [rowN] at h
 | v :: a,u :: b,ha,hb,h=>by
  have e:∀ (v:V) (l:List V),rowN (v :: l) = bytes (textV v) ++ 32 :: rowN l:=fun v l=>by simp [rowN]
  rw [e,e] at h
  obtain ⟨e1,e2⟩:=form_cut (vform (ha v (List.mem_cons_self ..))) (vform (hb u (List.mem_cons_self ..))) h
  rw [e1,rowN_inj (fun x hx=>ha x (List.mem_cons_of_mem _ hx)) (fun x hx=>hb x (List.mem_cons_of_mem _ hx)) e2]
theorem rowB_inj {a b:List V} (ha:validR a) (hb:validR b) (h:rowB a = rowB b):a = b:=by
 refine rowN_inj ha hb ?_
 have:=congrArg bytes h
 simpa [rowB,bytes] using this
theorem Adds.inj {n c:Nat} {L:AddL} (h:Adds n c L):NameInj L:=fun x hx y hy e=>rowB_inj (h.valid x hx) (h.valid y hy) e
end Go.Proofs.YtjbhhddfaohdnaaGreatDoor
end
section
namespace Go.Proofs.YtjbhhddfaohdnaaGreatDoor
open Go Go.Abs Go.Proofs
def optL {α:Type}:List (Option α)→Option (List α)
 | []=>some []
 | none :: _=>none
 | some x :: l=>match optL l with
  | some r=>some (x :: r)
  | none=>none
theorem optL_some {α:Type}:∀ {l:List (Option α)} {r:List α},optL l = some r ↔ l = r.map some
 | [],r=>by
  cases r with
  | nil=>simp [optL]
  | cons y r=>simp [optL]
 | none :: l,r=>by
  simp only [optL]
  constructor
  ·intro h; cases h
  ·intro h; cases r <;> simp at h
 | some x :: l,r=>by
  simp only [optL]
  cases h:optL l with
  | none=>
   constructor
   ·intro h; cases h
   ·intro h2
    cases r with
    | nil=>simp at h2
    | cons y r=>
     simp only [List.map_cons,List.cons.injEq] at h2
     rw [optL_some.2 h2.2] at h; cases h
  | some q=>
   have hq:=optL_some.1 h
   simp only [Option.some.injEq]
   constructor
   ·rintro rfl; rw [hq]; rfl
   ·intro h2
    cases r with
    | nil=>simp at h2
    | cons y r=>
     simp only [List.map_cons,List.cons.injEq,Option.some.injEq] at h2
     have:=optL_some.2 h2.2
     rw [h] at this; cases this
     rw [h2.1]
theorem optL_none {α:Type}:∀ {l:List (Option α)},optL l = none ↔ none ∈ l
 | []=>by simp [optL]
 | none :: l=>by simp [optL]
 | some x :: l=>by
  simp only [optL,List.mem_cons,reduceCtorEq,false_or]
  rw [← optL_none]
  cases optL l <;> simp
instance (m:AM):Decidable (closeOk m):=inferInstanceAs (Decidable (_∧_))
def evD (facts:List Fct):Nat→Plan→Option AM
 | 0,_=>none
 | n + 1,p=>match optL (p.kids.map (evD facts n)) with
  | none=>none
  | some ms=>match kidAdds p facts ms with
   | none=>none
   | some L=>if closeOk (runA L) then some (closeA (runA L)) else none
theorem Clo.perm {n c:Nat} {m m':AM} (p:m.Perm m') (h:Clo n c m):Clo n c m' where
 nodup:=((p.map _).nodup_iff).1 h.nodup
 len:=by rw [← p.length_eq]; exact h.len
 name:=fun q hq=>h.name q (p.mem_iff.2 hq)
 valid:=fun q hq=>h.valid q (p.mem_iff.2 hq)
 width:=fun q hq=>h.width q (p.mem_iff.2 hq)
 few:=fun q hq=>h.few q (p.mem_iff.2 hq)
 some:=fun q hq=>h.some q (p.mem_iff.2 hq)
 inN:=fun q hq=>h.inN q (p.mem_iff.2 hq)
 min:=fun q hq=>h.min q (p.mem_iff.2 hq)
theorem flatMap_left {α β:Type} {f g:α→List β}:∀ (l:List α),(∀ a ∈ l,(f a).Perm (g a))→(l.flatMap f).Perm (l.flatMap g)
 | [],_=>.refl _
 | x :: l,h=>by
  simp only [List.flatMap_cons]
  exact (h x (List.mem_cons_self ..)).append (flatMap_left l fun a ha=>h a (List.mem_cons_of_mem _ ha))
theorem flatMap_both {α β:Type} {f g:α→List β} {l m:List α} (h:l.Perm m) (hf:∀ a ∈ l,(f a).Perm (g a)):(l.flatMap f).Perm (m.flatMap g):=
 (flatMap_left l hf).trans (List.Perm.flatMap_right g h)
theorem waysAt_perm {m m':AM} (p:m.Perm m') (hn:(m.map (·.1)).Nodup) (n:ByteArray):waysAt n m = waysAt n m':=by
 have hn':(m'.map (·.1)).Nodup:=((p.map _).nodup_iff).1 hn
 by_cases h:∃ q ∈ m,q.1 = n
 ·obtain ⟨q,hq,rfl⟩:=h
  rw [waysAt_mem hn hq,waysAt_mem hn' (p.mem_iff.1 hq)]
 ·rw [waysAt_none (fun q hq e=>h ⟨q,hq,e⟩),waysAt_none (fun q hq e=>h ⟨q,p.mem_iff.2 hq,e⟩)]
theorem minusQ_perm {m m':AM} (p:m.Perm m') (hn:(m.map (·.1)).Nodup) (q:ByteArray × Ans):minusQ m q = minusQ m' q:=by
 unfold minusQ; rw [waysAt_perm p hn]
def PermO:Option AddL→Option AddL→Prop
 | some L,some M=>L.Perm M
 | none,none=>True
 | _,_=>False
theorem kidAdds_perm {tl:List Tbl} {facts:List Fct} {n:Nat} {p:Plan} (hs:Shape tl n p) {ms ms':List AM} (hl:ms.length = p.kids.length) (hl':ms'.length = p.kids.length)
  (hp:∀ i (h:i < ms.length) (h2:i < ms'.length),(ms[i].Perm ms'[i])∧(ms[i].map (·.1)).Nodup):PermO (kidAdds p facts ms) (kidAdds p facts ms'):=by
 have one:∀ q,p.kids = [q]→∃ m m',ms = [m]∧ms' = [m']∧m.Perm m':=by
  intro q hk
  rw [hk] at hl hl'
  obtain ⟨m,rfl⟩:=List.length_eq_one_iff.1 hl
  obtain ⟨m',rfl⟩:=List.length_eq_one_iff.1 hl'
  exact ⟨m,m',rfl,rfl,(hp 0 (by simp) (by simp)).1⟩
 have two:∀ q r,p.kids = [q,r]→∃ m1 m2 m1' m2',ms = [m1,m2]∧ms' = [m1',m2']∧m1.Perm m1'∧m2.Perm m2'∧(m2.map (·.1)).Nodup:=by
  intro q r hk
  rw [hk] at hl hl'
  obtain ⟨m1,m2,rfl⟩:=two_of hl
  obtain ⟨m1',m2',rfl⟩:=two_of hl'
  exact ⟨m1,m2,m1',m2',rfl,rfl,(hp 0 (by simp) (by simp)).1,(hp 1 (by simp) (by simp)).1,(hp 1 (by simp) (by simp)).2⟩
 unfold kidAdds
 cases hs with
 | table hk hks h0 h1 hl'=>rw [if_pos hk,if_pos hk]; exact .refl _
 | sel hk q hks hq hsv hl'=>
  obtain ⟨m,m',rfl,rfl,h⟩:=one q hks
  simp only [hk,hks,reduceIte,Int.reduceEq]
  exact List.Perm.flatMap_right _ h
 | proj hk q hks hq hcc hl'=>
  obtain ⟨m,m',rfl,rfl,h⟩:=one q hks
  simp only [hk,hks,reduceIte,Int.reduceEq]
  exact List.Perm.flatMap_right _ h
 | ren hk q hks hq hl'=>
  obtain ⟨m,m',rfl,rfl,h⟩:=one q hks
  simp only [hk,hks,reduceIte,Int.reduceEq]
  exact List.Perm.flatMap_right _ h
 | join hk q r hks hq hr hn hj=>
  obtain ⟨m1,m2,m1',m2',rfl,rfl,h1,h2,_⟩:=two q r hks
  simp only [hk,hks,reduceIte,Int.reduceEq]
  exact flatMap_both h1 fun a _=>List.Perm.flatMap_right _ h2
 | union hk q r hks hq hr hl1 hl2=>
  obtain ⟨m1,m2,m1',m2',rfl,rfl,h1,h2,_⟩:=two q r hks
  simp only [hk,hks,reduceIte,Int.reduceEq]
  exact (List.Perm.flatMap_right _ h1).append (List.Perm.flatMap_right _ h2)
 | minus hk q r hks hq hr hl1 hl2=>
  obtain ⟨m1,m2,m1',m2',rfl,rfl,h1,h2,hn⟩:=two q r hks
  simp only [hk,hks,reduceIte,Int.reduceEq]
  have hall:(m1.all fun q=>(minusQ m2 q).isSome) = m1'.all fun q=>(minusQ m2' q).isSome:=by
   rw [Bool.eq_iff_iff,List.all_eq_true,List.all_eq_true]
   constructor
   ·intro h x hx; rw [← minusQ_perm h2 hn]; exact h x (h1.mem_iff.2 hx)
   ·intro h x hx; rw [minusQ_perm h2 hn]; exact h x (h1.mem_iff.1 hx)
  rw [hall]
  split
  ·refine flatMap_both h1 fun a _=>?_
   unfold minusG; rw [minusQ_perm h2 hn]
  ·trivial
theorem ev_det {tl:List Tbl} {facts:List Fct} (hf:factsOk tl facts):∀ (n:Nat) (p:Plan),validB n tl p = true→grp p = false →
  (∀ m,EvN facts n p m→∃ m0,evD facts n p = some m0∧m.Perm m0)∧(EvX facts n p→evD facts n p = none)
 | 0,p,hv,_=>by simp [validB] at hv
 | n + 1,p,hv,hg=>by
  obtain ⟨h8,hgk⟩:=grp_kids hg
  have hs:=valid_shape hv h8
  have ih:=fun q (hq:q ∈ p.kids)=>ev_det hf n q (hs.kids q hq) (hgk q hq)
  have kids:∀ ms:List AM,ms.length = p.kids.length→(∀ i (h:i < p.kids.length) (h2:i < ms.length),EvN facts n p.kids[i] ms[i])→∃ ms0,optL (p.kids.map (evD facts n)) = some ms0∧ms0.length = p.kids.length ∧
    (∀ i (h:i < ms.length) (h2:i < ms0.length),(ms[i].Perm ms0[i])∧(ms[i].map (·.1)).Nodup)∧(∀ i (h:i < p.kids.length) (h2:i < ms.length),Clo facts.length p.kids[i].attrs.length ms[i])∧∀ i (h:i < p.kids.length) (h2:i < ms0.length),Clo facts.length p.kids[i].attrs.length ms0[i]:=by
   intro ms hl hk
   have hc:∀ i (h:i < p.kids.length) (h2:i < ms.length),Clo facts.length p.kids[i].attrs.length ms[i]:=fun i h h2=>evN_clo hf n _ _ (hs.kids _ (List.getElem_mem h)) (hgk _ (List.getElem_mem h)) (hk i h h2)
   have hex:∀ i (h:i < p.kids.length),∃ m0,evD facts n p.kids[i] = some m0∧(ms[i]'(by omega)).Perm m0:=fun i h=>(ih _ (List.getElem_mem h)).1 _ (hk i h (by omega))
   refine ⟨(p.kids.map fun q=>(evD facts n q).getD []),?_,by simp,fun i h h2=>?_,hc,fun i h h2=>?_⟩
   ·rw [optL_some,List.map_map]
    refine List.map_congr_left fun q hq=>?_
    obtain ⟨i,hi,rfl⟩:=List.getElem_of_mem hq
    obtain ⟨m0,e,_⟩:=hex i hi
    simp [e]
   ·obtain ⟨m0,e,hp⟩:=hex i (by omega)
    simp only [List.getElem_map,e,Option.getD_some]
    exact ⟨hp,(hc i (by omega) h).nodup⟩
   ·obtain ⟨m0,e,hp⟩:=hex i h
    simp only [List.getElem_map,e,Option.getD_some]
    exact (hc i h (by omega)).perm hp
  refine ⟨?_,?_⟩
  ·rintro m ⟨ms,hl,hk,L0,L,h0,hp,hc,rfl⟩
   obtain ⟨ms0,e0,hl0,hpm,hcl,hcl0⟩:=kids ms hl hk
   have hpo:=kidAdds_perm (facts:=facts) hs hl hl0 hpm
   rw [h0] at hpo
   cases h1:kidAdds p facts ms0 with
   | none=>rw [h1] at hpo; exact hpo.elim
   | some M=>
    rw [h1] at hpo
    have hpo:L0.Perm M:=hpo
    have hA:=(kid_adds hf hs hl hcl h0).perm hp.symm
    have hLM:L.Perm M:=hp.trans hpo
    refine ⟨closeA (runA M),?_,closeA_perm hLM hA.inj⟩
    simp only [evD,e0,h1]
    rw [if_pos ((closeOk_perm hLM hA.inj).1 hc)]
  ·rintro (⟨i,h,hx⟩ | ⟨ms,hl,hk,h⟩)
   ·have:optL (p.kids.map (evD facts n)) = none:=by
     rw [optL_none,List.mem_map]
     exact ⟨p.kids[i],List.getElem_mem h,(ih _ (List.getElem_mem h)).2 hx⟩
    simp only [evD,this]
   ·obtain ⟨ms0,e0,hl0,hpm,hcl,hcl0⟩:=kids ms hl hk
    have hpo:=kidAdds_perm (facts:=facts) hs hl hl0 hpm
    rcases h with h0 | ⟨L0,L,h0,hp,hc⟩
    ·rw [h0] at hpo
     cases h1:kidAdds p facts ms0 with
     | none=>simp only [evD,e0,h1]
     | some M=>rw [h1] at hpo; exact hpo.elim
    ·rw [h0] at hpo
     cases h1:kidAdds p facts ms0 with
     | none=>rw [h1] at hpo; exact hpo.elim
     | some M=>
      rw [h1] at hpo
      have hpo:L0.Perm M:=hpo
      have hA:=(kid_adds hf hs hl hcl h0).perm hp.symm
      have hLM:L.Perm M:=hp.trans hpo
      simp only [evD,e0,h1]
      rw [if_neg (fun h=>hc ((closeOk_perm hLM hA.inj).2 h))]
def insA (x:Ans):List Ans→List Ans
 | []=>[x]
 | y :: l=>if cmpR x.row y.row < 0 then x :: y :: l else y :: insA x l
def sortA (l:List Ans):List Ans:=l.foldr insA []
end Go.Proofs.YtjbhhddfaohdnaaGreatDoor
end
