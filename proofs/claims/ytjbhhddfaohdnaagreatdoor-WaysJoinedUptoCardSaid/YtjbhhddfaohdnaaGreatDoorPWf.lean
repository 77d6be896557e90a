/- A part of the proof: Jn, Wf. -/
import Derived.Test.YtjbhhddfaohdnaaGreatDoorPUd
set_option linter.all false
set_option linter.deprecated false
section
namespace Go.Proofs.YtjbhhddfaohdnaaGreatDoor
open Go Go.Abs Go.Proofs
theorem insA_mem (x z:Ans) (l:List Ans):z∈insA x l↔z=x∨z∈l:=by
 rw [(insA_perm x l).mem_iff,List.mem_cons]
theorem row_lt {a b:List V} (h:¬ cmpR a b<0) (hn:a≠b):cmpR b a<0:=by
 have h1:=order_cmpR.flip b a
 have h2:=mt (order_cmpR.eq a b).1 hn
 omega
theorem insA_strict (x:Ans):∀ {l:List Ans},l.Pairwise (fun a b=>cmpR a.row b.row<0)→(∀ y∈l,x.row≠y.row)→(insA x l).Pairwise fun a b=>cmpR a.row b.row<0
 | [],_,_=>by simp [insA]
 | y::l,h,hn=>by
  rw [List.pairwise_cons] at h
  simp only [insA]
  split
  ·rename_i hlt
   refine List.pairwise_cons.2 ⟨fun z hz=>?_,List.pairwise_cons.2 h⟩
   rcases List.mem_cons.1 hz with rfl | hz
   ·exact hlt
   ·exact order_cmpR.trans _ _ _ hlt (h.1 z hz)
  ·rename_i hge
   refine List.pairwise_cons.2 ⟨fun z hz=>?_,insA_strict x h.2 fun z hz=>hn z (List.mem_cons_of_mem _ hz)⟩
   rcases (insA_mem x z l).1 hz with rfl | hz
   ·exact row_lt hge (hn y (List.mem_cons_self ..))
   ·exact h.1 z hz
theorem sortA_strict:∀ {l:List Ans},(l.map (·.row)).Nodup→(sortA l).Pairwise fun a b=>cmpR a.row b.row<0
 | [],_=>by simp [sortA]
 | x::l,h=>by
  simp only [List.map_cons,List.nodup_cons] at h
  exact insA_strict x (sortA_strict h.2) fun y hy e=>h.1 (e ▸ List.mem_map_of_mem ((sortA_perm l).mem_iff.1 hy))
theorem Clo.rows {n c:Nat} {m:AM} (hc:Clo n c m):((m.map (·.2)).map (·.row)).Nodup:=by
 rw [List.map_map,List.Nodup,List.pairwise_map]
 have:=hc.nodup
 rw [List.Nodup,List.pairwise_map] at this
 refine this.imp_of_mem fun {x y} hx hy hne e=>hne ?_
 have e:x.2.row=y.2.row:=e
 rw [hc.name x hx,hc.name y hy,e]
theorem evD_some {facts:List Fct} {n:Nat} {p:Plan} {m:AM}:evD facts (n+1) p=some m↔∃ ms L,p.kids.map (evD facts n)=ms.map some∧kidAdds p facts ms=some L∧closeOk (runA L)∧m=closeA (runA L):=by
 simp only [evD]
 constructor
 ·intro h
  cases h1:optL (p.kids.map (evD facts n)) with
  | none=>rw [h1] at h; cases h
  | some ms=>
   rw [h1] at h
   simp only at h
   cases h2:kidAdds p facts ms with
   | none=>rw [h2] at h; cases h
   | some L=>
    rw [h2] at h
    simp only at h
    split at h
    ·rename_i hc
     cases h
     exact ⟨ms,L,optL_some.1 h1,h2,hc,rfl⟩
    ·cases h
 ·rintro ⟨ms,L,h1,h2,h3,rfl⟩
  rw [optL_some.2 h1]
  simp only [h2,if_pos h3]
theorem map_some_at {α β:Type} {f:α→Option β} {l:List α} {ms:List β} (h:l.map f=ms.map some):ms.length=l.length∧∀ i (hi:i<l.length) (h2:i<ms.length),f l[i]=some ms[i]:=by
 refine ⟨by have:=congrArg List.length h; simpa using this.symm,fun i hi h2=>?_⟩
 have h4:(l.map f)[i]? = (ms.map some)[i]?:=by rw [h]
 rw [List.getElem?_map,List.getElem?_map,List.getElem?_eq_getElem hi,List.getElem?_eq_getElem h2] at h4
 simpa using h4
theorem evD_N {facts:List Fct}:∀ (n:Nat) (p:Plan) (m:AM),evD facts n p=some m→EvN facts n p m
 | 0,p,m,h=>by simp [evD] at h
 | n+1,p,m,h=>by
  obtain ⟨ms,L,h1,h2,h3,rfl⟩:=evD_some.1 h
  obtain ⟨hl,h4⟩:=map_some_at h1
  exact ⟨ms,hl,fun i hi hi2=>evD_N n _ _ (h4 i hi hi2),L,L,h2,.refl _,h3,rfl⟩
theorem validB_up (tl:List Tbl):∀ (n:Nat) (p:Plan),validB n tl p=true→validB (n+1) tl p=true
 | 0,p,h=>by simp [validB] at h
 | n+1,p,h=>by
  rw [validB] at h ⊢
  simp only [Bool.and_eq_true] at h ⊢
  refine ⟨⟨⟨⟨h.1.1.1.1,?_⟩,h.1.1.2⟩,h.1.2⟩,h.2⟩
  rw [List.all_eq_true]
  exact fun q hq=>validB_up tl n q (List.all_eq_true.1 h.1.1.1.2 q hq)
theorem evD_up {tl:List Tbl} {facts:List Fct}:∀ (n:Nat) (p:Plan),validB n tl p=true→evD facts (n+1) p=evD facts n p
 | 0,p,h=>by simp [validB] at h
 | n+1,p,h=>by
  have hk:∀ q∈p.kids,validB n tl q=true:=by
   rw [validB] at h
   simp only [Bool.and_eq_true] at h
   exact List.all_eq_true.1 h.1.1.1.2
  have e:p.kids.map (evD facts (n+1))=p.kids.map (evD facts n):=List.map_congr_left fun q hq=>evD_up n q (hk q hq)
  rw [evD,evD,e]
def ansD (facts:List Fct) (p:Plan):List Ans:=sortA (((evD facts 12 p).getD []).map (·.2))
def codeD (tl:List Tbl) (p:Plan) (facts:List Fct):Int:=if badC tl p facts≠0 then badC tl p facts else if (evD facts 12 p).isSome then 0 else 3
theorem code_zero {tl:List Tbl} {p:Plan} {facts:List Fct} (h:codeD tl p facts=0):badC tl p facts=0∧∃ m,evD facts 12 p=some m:=by
 unfold codeD at h
 split at h
 ·rename_i hb; exact (hb h).elim
 ·rename_i hb
  split at h
  ·rename_i he; exact ⟨by simpa using hb,Option.isSome_iff_exists.1 he⟩
  ·cases h
theorem code_intro {tl:List Tbl} {p:Plan} {facts:List Fct} {m:AM} (h:badC tl p facts=0) (he:evD facts 12 p=some m):codeD tl p facts=0:=by
 unfold codeD
 rw [if_neg (by simpa using h),he]; rfl
structure Goes (tl:List Tbl) (p:Plan) (facts:List Fct) (m:AM):Prop where
 ok:factsOk tl facts
 valid:validB 12 tl p=true
 free:grp p=false
 ev:evD facts 12 p=some m
 clo:Clo facts.length p.attrs.length m
theorem goes_of {tl:List Tbl} {p:Plan} {facts:List Fct} (h:codeD tl p facts=0):∃ m,Goes tl p facts m:=by
 obtain ⟨hb,m,he⟩:=code_zero h
 obtain ⟨hf,hv,hg⟩:=bad0 hb
 exact ⟨m,hf,hv,hg,he,evN_clo hf 12 p m hv hg (evD_N 12 p m he)⟩
theorem Goes.mem {tl:List Tbl} {p:Plan} {facts:List Fct} {m:AM} (h:Goes tl p facts m) (a:Ans):a∈ansD facts p↔∃ r∈m,r.2=a:=by
 unfold ansD
 rw [(sortA_perm _).mem_iff,h.ev,List.mem_map]; rfl
theorem Goes.strict {tl:List Tbl} {p:Plan} {facts:List Fct} {m:AM} (h:Goes tl p facts m):(ansD facts p).Pairwise fun a b=>cmpR a.row b.row<0:=by
 unfold ansD
 rw [h.ev]
 exact sortA_strict h.clo.rows
theorem ways_fun {tl:List Tbl} {p:Plan} {facts:List Fct} {res:Res} {M':Maps} (h:waysQ tl p facts res M'):M'=[]∧((codeD tl p facts≠0∧res = .ret [NILS,I (codeD tl p facts)])∨(codeD tl p facts=0∧res = .ret [anss (ansD facts p),I 0])):=by
 by_cases hb:badC tl p facts=0
 ·obtain ⟨hf,hv,hg⟩:=bad0 hb
  cases he:evD facts 12 p with
  | some m=>
   have h0:=code_intro hb he
   have hc:=evN_clo hf 12 p m hv hg (evD_N 12 p m he)
   have hstr:=sortA_strict hc.rows
   obtain ⟨e1,e2⟩:=ways_det h hf hv hg hb he (sortA_perm _).symm hstr
   refine ⟨e2,.inr ⟨h0,?_⟩⟩
   rw [e1]; unfold ansD; rw [he]; rfl
  | none=>
   have h3:codeD tl p facts=3:=by unfold codeD; rw [if_neg (by simpa using hb),he]; rfl
   obtain ⟨hM,d,c,rfl,hx⟩:=h
   refine ⟨hM,.inl ⟨by omega,?_⟩⟩
   rcases hx with ⟨hb2,_,_⟩ | ⟨_,⟨m,l,hE,_⟩ | ⟨_,rfl,rfl⟩⟩
   ·exact (hb2 hb).elim
   ·obtain ⟨m0,e0,_⟩:=(ev_det hf 12 p hv hg).1 m hE
    rw [he] at e0; cases e0
   ·rw [h3]
 ·have h3:codeD tl p facts=badC tl p facts:=by unfold codeD; rw [if_pos hb]
  obtain ⟨e1,e2⟩:=bad_det h (c:=badC tl p facts) hb rfl
  exact ⟨e2,.inl ⟨by rw [h3]; exact hb,by rw [e1,h3]⟩⟩
theorem bad_kid {tl:List Tbl} {p:Plan} {facts:List Fct} (h:badC tl p facts=0):∀ q∈p.kids,badC tl q facts=0:=by
 intro q hq
 obtain ⟨_,hv,hg⟩:=bad0 h
 have hs:schemaB tl=true∧∀ f∈facts,factB tl f=true:=by
  unfold badC at h
  split at h
  ·rename_i h1
   have h2:=h1.1
   simp only [valB,Bool.and_eq_true] at h2
   exact ⟨h2.1,h1.2⟩
  ·cases h
 have hl:¬ 4000<facts.length:=by
  obtain ⟨hf,_,_⟩:=bad0 h
  have:=hf.1; omega
 have hq2:validB 12 tl q=true:=by
  rw [validB] at hv
  simp only [Bool.and_eq_true] at hv
  exact validB_up tl 11 q (List.all_eq_true.1 hv.1.1.1.2 q hq)
 have hgq:=(grp_kids hg).2 q hq
 unfold badC
 rw [if_pos ⟨by simp [valB,hs.1,hq2],hs.2⟩,if_neg (by simp [hgq]),if_neg hl]
theorem kids_of {tl:List Tbl} {p:Plan} {facts:List Fct} (h:codeD tl p facts=0):∃ ms L,ms.length=p.kids.length∧(∀ i (hi:i<p.kids.length) (h2:i<ms.length),Goes tl p.kids[i] facts ms[i])∧kidAdds p facts ms=some L∧Goes tl p facts (closeA (runA L))∧Shape tl 11 p∧NameInj L:=by
 obtain ⟨m,hm⟩:=goes_of h
 obtain ⟨ms,L,h1,h2,h3,rfl⟩:=evD_some.1 hm.ev
 obtain ⟨hl,h4⟩:=map_some_at h1
 obtain ⟨h8,hgk⟩:=grp_kids hm.free
 have hs:=valid_shape hm.valid h8
 have hk:∀ i (hi:i<p.kids.length) (h2:i<ms.length),Goes tl p.kids[i] facts ms[i]:=fun i hi hi2=>by
  have hv:=hs.kids _ (List.getElem_mem hi)
  have hg:=hgk _ (List.getElem_mem hi)
  exact ⟨hm.ok,validB_up tl 11 _ hv,hg,by rw [evD_up 11 _ hv]; exact h4 i hi hi2,evN_clo hm.ok 11 _ _ hv hg (evD_N 11 _ _ (h4 i hi hi2))⟩
 exact ⟨ms,L,hl,hk,h2,hm,hs,(kid_adds hm.ok hs hl (fun i hi hi2=>(hk i hi hi2).clo) h2).inj⟩
theorem code_kid {tl:List Tbl} {p:Plan} {facts:List Fct} (h:codeD tl p facts=0):∀ q∈p.kids,codeD tl q facts=0:=by
 intro q hq
 obtain ⟨ms,L,hl,hk,_⟩:=kids_of h
 obtain ⟨i,hi,rfl⟩:=List.getElem_of_mem hq
 exact code_intro (bad_kid (code_zero h).1 _ hq) (hk i hi (by omega)).ev
def findW (l:List Ans) (row:List V):List W:=match l.find? (fun a=>decide (cmpR a.row row=0)) with
 | some a=>a.ways
 | none=>[]
theorem findW_in (l:List Ans) (row:List V):(findW l row=[]∧∀ a∈l,a.row≠row)∨∃ a∈l,a.row=row∧findW l row=a.ways:=by
 unfold findW
 cases h:l.find? (fun a=>decide (cmpR a.row row=0)) with
 | none=>
  rw [List.find?_eq_none] at h
  exact .inl ⟨rfl,fun a ha e=>h a ha (by simpa using (order_cmpR.eq _ _).2 e)⟩
 | some a=>
  have h1:=List.find?_some h
  exact .inr ⟨a,List.mem_of_find?_eq_some h,(order_cmpR.eq _ _).1 (by simpa using h1),rfl⟩
theorem strict_row {l:List Ans} (h:l.Pairwise fun a b=>cmpR a.row b.row<0) {a b:Ans} (ha:a∈l) (hb:b∈l) (e:a.row=b.row):a=b:=by
 obtain ⟨i,hi,rfl⟩:=List.getElem_of_mem ha
 obtain ⟨j,hj,rfl⟩:=List.getElem_of_mem hb
 have h0:∀ r:List V,¬ cmpR r r<0:=fun r=>by have:=(order_cmpR.eq r r).2 rfl; omega
 rcases Nat.lt_trichotomy i j with h1 | h1 | h1
 ·have:=(List.pairwise_iff_getElem.1 h) i j hi hj h1
  rw [e] at this; exact (h0 _ this).elim
 ·subst h1; rfl
 ·have:=(List.pairwise_iff_getElem.1 h) j i hj hi h1
  rw [e] at this; exact (h0 _ this).elim
theorem mem_findW {l:List Ans} (h:l.Pairwise fun a b=>cmpR a.row b.row<0) (row:List V) (w:W):w∈findW l row↔∃ a∈l,a.row=row∧w∈a.ways:=by
 rcases findW_in l row with ⟨e,hn⟩ | ⟨a,ha,e1,e2⟩
 ·rw [e]
  constructor
  ·intro h; simp at h
  ·rintro ⟨a,ha,e,_⟩; exact (hn a ha e).elim
 ·rw [e2]
  constructor
  ·exact fun hw=>⟨a,ha,e1,hw⟩
  ·rintro ⟨b,hb,e3,hw⟩
   rw [strict_row h ha hb (e1.trans e3.symm)]; exact hw
def allW (facts:List Fct) (ks:List Plan) (row:List V):List W:=ks.flatMap fun q=>findW (ansD facts q) row
theorem joined_of {tl:List Tbl} {p:Plan} {facts:List Fct} (h:codeD tl p facts=0) (hk:p.kind=2∨p.kind=5):∃ (ok:List V→Prop) (L:AddL),NameInj L∧Goes tl p facts (closeA (runA L))∧(∀ x,x∈L↔ok x.1∧∃ q∈p.kids,∃ a∈ansD facts q,x=(a.row,a.ways))∧(p.kind=5→∀ row,ok row):=by
 obtain ⟨ms,L,hl,hg,h2,hm,hs,hi⟩:=kids_of h
 rcases hk with hk | hk
 ·cases hs with
  | sel hk' q hks hq hsv hl'=>
   have hg0:=hg 0 (by rw [hks]; simp) (by rw [hl,hks]; simp)
   rw [hks] at hl
   obtain ⟨m,rfl⟩:=List.length_eq_one_iff.1 hl
   unfold kidAdds at h2
   simp only [hk',hks,reduceIte,Int.reduceEq] at h2
   cases h2
   have hg0:Goes tl q facts m:=by simpa [hks] using hg0
   refine ⟨fun row=>selB p row=false,_,hi,hm,fun x=>?_,fun h5=>by omega⟩
   rw [hks,List.mem_flatMap]
   constructor
   ·rintro ⟨r,hr,hx⟩
    unfold selG at hx
    split at hx
    ·simp at hx
    ·rename_i hb
     rw [add1,List.mem_singleton] at hx
     subst hx
     exact ⟨by simpa using hb,q,by simp,r.2,(hg0.mem _).2 ⟨r,hr,rfl⟩,rfl⟩
   ·rintro ⟨hb,q',hq',a,ha,rfl⟩
    obtain rfl:q'=q:=by simpa using hq'
    obtain ⟨r,hr,rfl⟩:=(hg0.mem _).1 ha
    refine ⟨r,hr,?_⟩
    unfold selG
    have hb:selB p r.2.row=false:=hb
    rw [if_neg (by simp [hb])]
    simp [add1]
  | _=>omega
 ·cases hs with
  | union hk' q r hks hq hr hl1 hl2=>
   have hg0:=hg 0 (by rw [hks]; simp) (by rw [hl,hks]; simp)
   have hg1:=hg 1 (by rw [hks]; simp) (by rw [hl,hks]; simp)
   rw [hks] at hl
   obtain ⟨m1,m2,rfl⟩:=two_of hl
   unfold kidAdds at h2
   simp only [hk',hks,reduceIte,Int.reduceEq] at h2
   cases h2
   have hg0:Goes tl q facts m1:=by simpa [hks] using hg0
   have hg1:Goes tl r facts m2:=by simpa [hks] using hg1
   refine ⟨fun _=>True,_,hi,hm,fun x=>?_,fun _ _=>trivial⟩
   have one:∀ {q:Plan} {m:AM},Goes tl q facts m→(x∈addsM m↔∃ a∈ansD facts q,x=(a.row,a.ways)):=by
    intro q m hg
    constructor
    ·intro hx
     obtain ⟨r,hr,hx⟩:=List.mem_flatMap.1 hx
     exact ⟨r.2,(hg.mem _).2 ⟨r,hr,rfl⟩,List.mem_singleton.1 hx⟩
    ·rintro ⟨a,ha,rfl⟩
     obtain ⟨r,hr,rfl⟩:=(hg.mem _).1 ha
     exact List.mem_flatMap.2 ⟨r,hr,List.mem_singleton.2 rfl⟩
   rw [List.mem_append,one hg0,one hg1,hks]
   simp
  | _=>omega
theorem joined_eq {tl:List Tbl} {p:Plan} {facts:List Fct} (h:codeD tl p facts=0) (hk:p.kind=2∨p.kind=5):∀ a∈ansD facts p,minW (allW facts p.kids a.row)=a.ways:=by
 intro a ha
 obtain ⟨ok,L,hi,hm,hL,_⟩:=joined_of h hk
 obtain ⟨r,hr,rfl⟩:=(hm.mem _).1 ha
 obtain ⟨x,hx,rfl,_⟩:=(mem_closeA hi r).1 hr
 refine minW_set fun w=>?_
 rw [mem_waysOf]
 unfold allW
 rw [List.mem_flatMap]
 constructor
 ·rintro ⟨q,hq,hw⟩
  obtain ⟨m,hgm⟩:=goes_of (code_kid h q hq)
  obtain ⟨b,hb,e,hw⟩:=(mem_findW hgm.strict _ _).1 hw
  refine ⟨(b.row,b.ways),(hL _).2 ⟨?_,q,hq,b,hb,rfl⟩,by simp only [e],hw⟩
  show ok b.row
  rw [e]; exact ((hL x).1 hx).1
 ·rintro ⟨y,hy,e,hw⟩
  obtain ⟨_,q,hq,b,hb,rfl⟩:=(hL y).1 hy
  obtain ⟨m,hgm⟩:=goes_of (code_kid h q hq)
  exact ⟨q,hq,(mem_findW hgm.strict _ _).2 ⟨b,hb,hi _ hy _ hx e,hw⟩⟩
theorem minW_ne {l m:List W} (hs:∀ w∈m,w∈l) (hm:minW m=m) (hn:m≠[]):minW l≠[]:=by
 obtain ⟨w,hw⟩:=List.exists_mem_of_ne_nil m hn
 have hw2:w∈norms m:=((mem_minW m w).1 (by rw [hm]; exact hw)).1
 have hc:consW w=true:=(List.mem_filter.1 hw2).2
 have hw3:normW w∈norms l:=by
  refine List.mem_filter.2 ⟨List.mem_map_of_mem (hs w hw),?_⟩
  rw [normW_self (norms_norm hw2)]; exact hc
 obtain ⟨y,hy,_⟩:=min_below _ (Int.le_refl _) hw3
 exact fun e=>by rw [e] at hy; simp at hy
theorem joined_un {tl:List Tbl} {p:Plan} {facts:List Fct} (h:codeD tl p facts=0) (hk:p.kind=5):∀ q∈p.kids,∀ a∈ansD facts q,findW (ansD facts p) a.row≠[]:=by
 intro q hq a ha
 obtain ⟨ok,L,hi,hm,hL,hok⟩:=joined_of h (.inr hk)
 obtain ⟨m,hgm⟩:=goes_of (code_kid h q hq)
 have hx:(a.row,a.ways)∈L:=(hL _).2 ⟨hok hk _,q,hq,a,ha,rfl⟩
 obtain ⟨r,hr,rfl⟩:=(hgm.mem _).1 ha
 have hne:minW (waysOf (rowB r.2.row) L)≠[]:=minW_ne (fun w hw=>mem_waysOf.2 ⟨_,hx,rfl,hw⟩) (hgm.clo.min r hr) (hgm.clo.some r hr)
 have hin:(⟨r.2.row,minW (waysOf (rowB r.2.row) L)⟩:Ans)∈ansD facts p:=(hm.mem _).2 ⟨_,(mem_closeA hi _).2 ⟨_,hx,rfl,by simpa using hne⟩,rfl⟩
 obtain ⟨w,hw⟩:=List.exists_mem_of_ne_nil _ hne
 have:w∈findW (ansD facts p) r.2.row:=(mem_findW hm.strict _ _).2 ⟨_,hin,rfl,hw⟩
 exact fun e=>by rw [e] at this; simp at this
theorem Goes.size {tl:List Tbl} {p:Plan} {facts:List Fct} {m:AM} (h:Goes tl p facts m):∀ a∈ansD facts p,a.ways.length≤400∧∀ w∈a.ways,lenW 1000000 w:=by
 intro a ha
 obtain ⟨r,hr,rfl⟩:=(h.mem _).1 ha
 have hn:=h.ok.1
 exact h.clo.lens (by omega) r hr
theorem find_size {tl:List Tbl} {p:Plan} {facts:List Fct} (h:codeD tl p facts=0) (row:List V):(findW (ansD facts p) row).length≤400∧∀ w∈findW (ansD facts p) row,lenW 1000000 w:=by
 obtain ⟨m,hm⟩:=goes_of h
 rcases findW_in (ansD facts p) row with ⟨e,_⟩ | ⟨a,ha,_,e⟩
 ·rw [e]; exact ⟨by simp,by simp⟩
 ·rw [e]; exact hm.size a ha
theorem allW_size {tl:List Tbl} {facts:List Fct} (row:List V):∀ (ks:List Plan),(∀ q∈ks,codeD tl q facts=0)→(allW facts ks row).length≤400 * ks.length∧∀ w∈allW facts ks row,lenW 1000000 w
 | [],_=>⟨by simp [allW],by simp [allW]⟩
 | q::ks,h=>by
  have h1:=find_size (h q (List.mem_cons_self ..)) row
  have h2:=allW_size row ks fun q hq=>h q (List.mem_cons_of_mem _ hq)
  unfold allW at h2 ⊢
  rw [List.flatMap_cons]
  refine ⟨by rw [List.length_append,List.length_cons]; omega,fun w hw=>?_⟩
  rcases List.mem_append.1 hw with hw | hw
  ·exact h1.2 w hw
  ·exact h2.2 w hw
theorem joined_kids {tl:List Tbl} {p:Plan} {facts:List Fct} (h:codeD tl p facts=0) (hk:p.kind=2∨p.kind=5):p.kids.length≤2:=by
 obtain ⟨_,_,_,_,_,_,hs,_⟩:=kids_of h
 rcases hk with hk | hk
 ·cases hs with
  | sel hk' q hks hq hsv hl'=>rw [hks]; simp
  | _=>omega
 ·cases hs with
  | union hk' q r hks hq hr hl1 hl2=>rw [hks]; simp
  | _=>omega
end Go.Proofs.YtjbhhddfaohdnaaGreatDoor
end
section
namespace Go.Abs
theorem RetV.more {w:World} {G G':Pub} {v:Value} {rs:List PD} (hG:∀ b o,G b o→G' b o) (h:RetV w G v rs):RetV w G' v rs:=by
 unfold RetV at *
 split at h
 ·exact h.keep (.same hG)
 ·obtain ⟨vs,e,hs,hr⟩:=h
  exact ⟨vs,e,hs,fun j hj=>(hr j hj).keep (.same hG)⟩
theorem FnM.toW {P:Program} {f:FuncId} {args:List SV} {Q:Res→Maps→Prop} {rs:List PD} (h:FnM P f args [] [] Q) (hQ:∀ res M',Q res M'→res = .ret rs):FnW P f args rs:=by
 refine ⟨h.1,fun w G vals h1 h2 h3=>(h.2 w G vals h1 h2 h3 (fun r m h=>by simp [lk] at h)).mono ?_⟩
 rintro e w' ⟨res,M',G',hq,_,hG',_,hk,he,_,_⟩
 obtain rfl:=hQ _ _ hq
 obtain ⟨v,rfl,hr⟩:=he
 exact ⟨v,rfl,hr.more hG',(hk.mono (mu':=fun _=>False) fun k h=>by simp at h).belowW⟩
end Go.Abs
namespace Go.Proofs.YtjbhhddfaohdnaaGreatDoor
open Go Go.Abs Go.Proofs
set_option maxRecDepth 10000
theorem ent26:Ent Tryz.prog 26:=fun _ _=>by kernel_rfl
theorem waysOk {tl:List Tbl} {p:Plan} {facts:List Fct} (htl:∀ t∈tl,okT t∧t.attrs.length≤100000000) (ho:okP p) (h:codeD tl p facts=0):FnW Tryz.prog 13 [.pd (schema tl),.pd (plan p),.pd (fcts facts)] [anss (ansD facts p),I 0]:=
 (ways_ok tl p facts htl ho).toW fun res M' hq=>by
  rcases (ways_fun hq).2 with ⟨h1,_⟩ | ⟨_,e⟩
  ·exact (h1 h).elim
  ·exact e
theorem waysNo {tl:List Tbl} {p:Plan} {facts:List Fct} (htl:∀ t∈tl,okT t∧t.attrs.length≤100000000) (ho:okP p) (h:codeD tl p facts≠0):FnW Tryz.prog 13 [.pd (schema tl),.pd (plan p),.pd (fcts facts)] [NILS,I (codeD tl p facts)]:=
 (ways_ok tl p facts htl ho).toW fun res M' hq=>by
  rcases (ways_fun hq).2 with ⟨_,e⟩ | ⟨h1,_⟩
  ·exact e
  ·exact (h h1).elim
theorem findW_drop {l:List Ans} {k:Nat} (row:List V) (h:k<l.length):findW (l.drop k) row=if cmpR l[k].row row=0 then l[k].ways else findW (l.drop (k+1)) row:=by
 rw [drop_cons h]
 unfold findW
 by_cases h0:cmpR l[k].row row=0
 ·rw [List.find?_cons_of_pos (by simpa using h0),if_pos h0]
 ·rw [List.find?_cons_of_neg (by simpa using h0),if_neg h0]
theorem findA_ok (l:List Ans) (row:List V):FnC Tryz.prog 26 [.pd (anss l),.pd (vals row)] [ways (findW l row)]:=by
 refine FnC.mk Tryz.func26 rfl ent26 (by simp [Tryz.ntmps26]) fun w G=>?_
 refine R.bound 0 (sz:=2) (ds:=l.map ans) rfl fun hl=>?_
 have hl:l.length≤9223372036854775807:=by simpa [maxLen] using hl
 (refine ev8 ?_; simp only [go_sem])
 refine R.famU (fun (k:Nat) s=>St.lp [0,1] [(5,.pd (I k))] [] [] [] [] s) (fun (k:Nat)=>k≤l.length∧findW l row=findW (l.drop k) row) (fun (k:Nat)=>l.length - k) (0) (⟨by omega,by simp⟩) (by (simp only [go_sem]); all_goals (and_intros <;> rfl)) ?_
 rintro k ⟨hk,hinv⟩
 by_cases hlt:k<l.length
 ·have e1:decide ((k:Int)<(l.length:Int))=true:=by simp; omega
  rw [findW_drop row hlt] at hinv
  (refine evL8 ?_; simp only [go_sem,↓reduceIte,e1,getD_map,hlt])
  (repeat (refine And.intro (by omega) ?_))
  refine R.callC (refR_ok l[k].row row) rfl rfl (.cons (.pd _) (.cons (.pd _) (.nil))) (by simp [plain,PD.plain]) (by simp only [go_sem]) ?_
  by_cases h0:cmpR l[k].row row=0
  ·rw [if_pos h0] at hinv
   have e2:(cmpR l[k].row row == 0)=true:=by simpa using h0
   (refine evL8 ?_; simp only [go_sem,↓reduceIte,e2,getD_map,hlt])
   (repeat (refine And.intro (by omega) ?_))
   refine R.retC (vc:=True) ?_ trivial
   rw [hinv]; rfl
  ·rw [if_neg h0] at hinv
   have e2:(cmpR l[k].row row == 0)=false:=by simpa using h0
   (refine evL8 ?_; simp only [go_sem,↓reduceIte,e2,wrapN (k:=k) (by omega)])
   refine R.famEnd (k+1) ⟨by omega,hinv⟩ (by show _<_; omega) (by (simp only [go_sem]); all_goals (and_intros <;> rfl))
 ·have e1:decide ((k:Int)<(l.length:Int))=false:=by simp; omega
  rw [List.drop_eq_nil_of_le (by omega)] at hinv
  (refine evL8 ?_; simp only [go_sem,↓reduceIte,e1])
  refine R.up 4 (by (simp only [go_sem])) rfl (.nil 2) ?_
  (simp only [go_sem])
  refine R.retC (vc:=True) ?_ trivial
  rw [hinv]; rfl
end Go.Proofs.YtjbhhddfaohdnaaGreatDoor
end
