/- A part of the proof: Ka. -/
import Derived.Test.YtjbhhddfaohdnaaGreatDoorPPf
import Derived.Test.YtjbhhddfaohdnaaGreatDoorPRv
set_option linter.all false
set_option linter.deprecated false
namespace Go.Proofs.YtjbhhddfaohdnaaGreatDoor
open Go Go.Abs Go.Proofs
set_option maxRecDepth 10000
set_option maxHeartbeats 4000000
theorem ent42:Ent Tryz.prog 42:=fun _ _=>by kernel_rfl
theorem tabL_runA (t:Int) (facts:List Fct):tabL t facts facts.length=runA (tabAdds t facts):=by
 have:∀ (l:List (Fct × Nat)) (m:AM),l.foldl (tabS t) m=(l.flatMap fun q=>if q.1.table=t then [(q.1.row,[(⟨[(q.2:Int)],[]⟩:W)])] else []).foldl (fun m x=>addL (rowB x.1) x.1 x.2 m) m:=by
  intro l
  induction l with
  | nil=>intro m; rfl
  | cons q l ih=>
   intro m
   rw [List.foldl_cons,List.flatMap_cons,List.foldl_append,ih]
   congr 1
   unfold tabS
   split <;> rfl
 unfold tabL
 rw [List.take_of_length_le (Nat.le_refl _)]
 exact this _ _
abbrev planC (p:Plan):List SV:=[.pd (I p.kind),.pd (I p.table),.pd (plans p.kids),.pd (tsts p.tests),.pd (ints p.cols),.pd (I p.col),.pd (I p.agg),.pd (attrs p.attrs)]
abbrev planT (p:Plan):PD:=.tup [I p.kind,I p.table,plans p.kids,tsts p.tests,ints p.cols,I p.col,I p.agg,attrs p.attrs]
theorem sides_ok {p q:Plan} (h:selV p q=true) {row:List V} (hl:row.length=q.attrs.length) (t:Tst) (ht:t∈p.tests):sideOk row t.left∧sideOk row t.right:=by
 unfold selV at h
 simp only [Bool.and_eq_true,Bool.not_eq_true',List.any_eq_false] at h
 have h1:=h.2 t ht
 have h1:rightT t q.attrs.length=true:=by simpa using h1
 unfold rightT at h1
 simp only [Bool.and_eq_true] at h1
 have hs:∀ s:Side,sideV s q.attrs.length=true→sideOk row s:=by
  intro s hs
  unfold sideV at hs
  split at hs
  ·exact .inl (by assumption)
  ·simp only [Bool.and_eq_true,decide_eq_true_eq] at hs
   exact .inr ⟨hs.1.1.2,by omega⟩
 exact ⟨hs _ h1.1.1.2,hs _ h1.1.2⟩
def mapO (q:Nat × AM):Nat × AObj:=(q.1,.map (encM q.2))
def evQ (facts:List Fct) (n:Nat) (p:Plan) (res:Res) (M':Maps):Prop:=(∃ r m,res = .ret [mref r]∧M'=[(r,encM m)]∧EvN facts n p m)∨(res = .boom LIM∧M'=[]∧EvX facts n p)
theorem leM_same {n:Nat} {sl:List (Nat × SV)} {vs:List (Nat × List SV)} {rs:List (Nat × Row)} {mm:List (Nat × AObj)} {gs:List (Nat × SV)} (h:(mm.map (·.1)).Nodup):leM ⟨n,sl,vs,rs,mm,gs⟩ mm:=leM_of fun p hp=>lk_nodup h p hp
theorem leM_next {n:Nat} {sl:List (Nat × SV)} {vs:List (Nat × List SV)} {rs:List (Nat × Row)} {mm:List (Nat × AObj)} {gs:List (Nat × SV)} {r:Nat} {o:AObj} (h:(mm.map (·.1)).Nodup) (hr:r∉mm.map (·.1)):leM ⟨n,sl,vs,rs,(r,o)::mm,gs⟩ mm:=
 leM_of fun p hp=>by
  simp only [St.map,lk]
  rw [if_neg (fun e=>hr (List.mem_map.2 ⟨p,hp,e.symm⟩))]
  exact lk_nodup h p hp
theorem wrote_nil (o:AObj):o.wrote []=o:=by cases o <;> simp [AObj.wrote]
theorem after_nil (M':Maps) (ms:List (Nat × AObj)):after [] M' ms=(M'.map fun p=>(p.1,.map p.2))++ms:=by
 unfold after
 congr 1
 simp [wrote_nil]
def T42 (p q:Plan) (facts:List Fct) (k:Nat) (X:List PD) (mm:List (Nat × AObj)) (x:Nat × AM):Nat→St
 | 0=>⟨34,[(14,.pd (I k)),(1,.pd (fcts facts)),(2,.vptr 2 0),(4,.pd (.raw (.map none))),(5,.vptr 5 0),(7,.vptr 7 0),(12,.pd (plans p.kids)),(13,.pd (I p.kids.length))],[(2,planC p),(5,planC p++[.pd (fcts facts),.own 5005]),(7,planC q)],[(5005,⟨95,1,X⟩)],mm,[]⟩
 | 1=>⟨34,[(14,.pd (I k)),(1,.pd (fcts facts)),(2,.vptr 2 0),(4,.pd (.raw (.map none))),(5,.vptr 5 0),(7,.vptr 7 0),(12,.pd (plans p.kids)),(13,.pd (I p.kids.length)),(18,.vptr 5 9)],[(2,planC p),(5,planC p++[.pd (fcts facts),.own 5005]),(7,planC q)],[(5005,⟨95,1,X⟩)],mm,[]⟩
 | 3=>⟨34,[(14,.pd (I k)),(1,.pd (fcts facts)),(2,.vptr 2 0),(4,.pd (.raw (.map none))),(5,.vptr 5 0),(7,.vptr 7 0),(12,.pd (plans p.kids)),(13,.pd (I p.kids.length)),(18,.vptr 5 9),(19,.own 5005)],[(2,planC p),(5,planC p++[.pd (fcts facts),.own 5005]),(7,planC q)],[(5005,⟨95,1,X⟩)],mm,[]⟩
 | 4=>⟨34,[(14,.pd (I k)),(1,.pd (fcts facts)),(2,.vptr 2 0),(4,.pd (.raw (.map none))),(5,.vptr 5 0),(7,.vptr 7 0),(12,.pd (plans p.kids)),(13,.pd (I p.kids.length)),(20,.pd (planT q))],[(2,planC p),(5,planC p++[.pd (fcts facts),.own 5005]),(7,planC q)],[(5005,⟨95,1,X⟩)],mm,[]⟩
 | 5=>⟨34,[(14,.pd (I k)),(1,.pd (fcts facts)),(2,.vptr 2 0),(4,.pd (.raw (.map none))),(5,.vptr 5 0),(7,.vptr 7 0),(12,.pd (plans p.kids)),(13,.pd (I p.kids.length)),(18,.vptr 5 9),(20,.pd (planT q))],[(2,planC p),(5,planC p++[.pd (fcts facts),.own 5005]),(7,planC q)],[(5005,⟨95,1,X⟩)],mm,[]⟩
 | 7=>⟨34,[(14,.pd (I k)),(1,.pd (fcts facts)),(2,.vptr 2 0),(4,.pd (.raw (.map none))),(5,.vptr 5 0),(7,.vptr 7 0),(12,.pd (plans p.kids)),(13,.pd (I p.kids.length)),(18,.vptr 5 9),(19,.own 5005),(20,.pd (planT q))],[(2,planC p),(5,planC p++[.pd (fcts facts),.own 5005]),(7,planC q)],[(5005,⟨95,1,X⟩)],mm,[]⟩
 | 8=>⟨34,[(14,.pd (I k)),(1,.pd (fcts facts)),(2,.vptr 2 0),(4,.pd (.raw (.map none))),(5,.vptr 5 0),(7,.vptr 7 0),(12,.pd (plans p.kids)),(13,.pd (I p.kids.length)),(21,.pd (fcts facts))],[(2,planC p),(5,planC p++[.pd (fcts facts),.own 5005]),(7,planC q)],[(5005,⟨95,1,X⟩)],mm,[]⟩
 | 9=>⟨34,[(14,.pd (I k)),(1,.pd (fcts facts)),(2,.vptr 2 0),(4,.pd (.raw (.map none))),(5,.vptr 5 0),(7,.vptr 7 0),(12,.pd (plans p.kids)),(13,.pd (I p.kids.length)),(18,.vptr 5 9),(21,.pd (fcts facts))],[(2,planC p),(5,planC p++[.pd (fcts facts),.own 5005]),(7,planC q)],[(5005,⟨95,1,X⟩)],mm,[]⟩
 | 11=>⟨34,[(14,.pd (I k)),(1,.pd (fcts facts)),(2,.vptr 2 0),(4,.pd (.raw (.map none))),(5,.vptr 5 0),(7,.vptr 7 0),(12,.pd (plans p.kids)),(13,.pd (I p.kids.length)),(18,.vptr 5 9),(19,.own 5005),(21,.pd (fcts facts))],[(2,planC p),(5,planC p++[.pd (fcts facts),.own 5005]),(7,planC q)],[(5005,⟨95,1,X⟩)],mm,[]⟩
 | 12=>⟨34,[(14,.pd (I k)),(1,.pd (fcts facts)),(2,.vptr 2 0),(4,.pd (.raw (.map none))),(5,.vptr 5 0),(7,.vptr 7 0),(12,.pd (plans p.kids)),(13,.pd (I p.kids.length)),(20,.pd (planT q)),(21,.pd (fcts facts))],[(2,planC p),(5,planC p++[.pd (fcts facts),.own 5005]),(7,planC q)],[(5005,⟨95,1,X⟩)],mm,[]⟩
 | 13=>⟨34,[(14,.pd (I k)),(1,.pd (fcts facts)),(2,.vptr 2 0),(4,.pd (.raw (.map none))),(5,.vptr 5 0),(7,.vptr 7 0),(12,.pd (plans p.kids)),(13,.pd (I p.kids.length)),(18,.vptr 5 9),(20,.pd (planT q)),(21,.pd (fcts facts))],[(2,planC p),(5,planC p++[.pd (fcts facts),.own 5005]),(7,planC q)],[(5005,⟨95,1,X⟩)],mm,[]⟩
 | 15=>⟨34,[(14,.pd (I k)),(1,.pd (fcts facts)),(2,.vptr 2 0),(4,.pd (.raw (.map none))),(5,.vptr 5 0),(7,.vptr 7 0),(12,.pd (plans p.kids)),(13,.pd (I p.kids.length)),(18,.vptr 5 9),(19,.own 5005),(20,.pd (planT q)),(21,.pd (fcts facts))],[(2,planC p),(5,planC p++[.pd (fcts facts),.own 5005]),(7,planC q)],[(5005,⟨95,1,X⟩)],mm,[]⟩
 | 28=>⟨34,[(14,.pd (I k)),(1,.pd (fcts facts)),(2,.vptr 2 0),(4,.pd (.raw (.map none))),(5,.vptr 5 0),(7,.vptr 7 0),(12,.pd (plans p.kids)),(13,.pd (I p.kids.length)),(20,.pd (planT q)),(21,.pd (fcts facts)),(22,.pd (mref x.1))],[(2,planC p),(5,planC p++[.pd (fcts facts),.own 5005]),(7,planC q)],[(5005,⟨95,1,X⟩)],(x.1,.map (encM x.2))::mm,[]⟩
 | 29=>⟨34,[(14,.pd (I k)),(1,.pd (fcts facts)),(2,.vptr 2 0),(4,.pd (.raw (.map none))),(5,.vptr 5 0),(7,.vptr 7 0),(12,.pd (plans p.kids)),(13,.pd (I p.kids.length)),(18,.vptr 5 9),(20,.pd (planT q)),(21,.pd (fcts facts)),(22,.pd (mref x.1))],[(2,planC p),(5,planC p++[.pd (fcts facts),.own 5005]),(7,planC q)],[(5005,⟨95,1,X⟩)],(x.1,.map (encM x.2))::mm,[]⟩
 | 31=>⟨34,[(14,.pd (I k)),(1,.pd (fcts facts)),(2,.vptr 2 0),(4,.pd (.raw (.map none))),(5,.vptr 5 0),(7,.vptr 7 0),(12,.pd (plans p.kids)),(13,.pd (I p.kids.length)),(18,.vptr 5 9),(19,.own 5005),(20,.pd (planT q)),(21,.pd (fcts facts)),(22,.pd (mref x.1))],[(2,planC p),(5,planC p++[.pd (fcts facts),.own 5005]),(7,planC q)],[(5005,⟨95,1,X⟩)],(x.1,.map (encM x.2))::mm,[]⟩
 | 60=>⟨34,[(14,.pd (I k)),(1,.pd (fcts facts)),(2,.vptr 2 0),(4,.pd (.raw (.map none))),(5,.vptr 5 0),(7,.vptr 7 0),(12,.pd (plans p.kids)),(13,.pd (I p.kids.length)),(20,.pd (planT q)),(21,.pd (fcts facts)),(22,.pd (mref x.1)),(23,.pd (.list 1 [mref x.1]))],[(2,planC p),(5,planC p++[.pd (fcts facts),.own 5005]),(7,planC q)],[(5005,⟨95,1,X⟩)],(x.1,.map (encM x.2))::mm,[]⟩
 | 61=>⟨34,[(14,.pd (I k)),(1,.pd (fcts facts)),(2,.vptr 2 0),(4,.pd (.raw (.map none))),(5,.vptr 5 0),(7,.vptr 7 0),(12,.pd (plans p.kids)),(13,.pd (I p.kids.length)),(18,.vptr 5 9),(20,.pd (planT q)),(21,.pd (fcts facts)),(22,.pd (mref x.1)),(23,.pd (.list 1 [mref x.1]))],[(2,planC p),(5,planC p++[.pd (fcts facts),.own 5005]),(7,planC q)],[(5005,⟨95,1,X⟩)],(x.1,.map (encM x.2))::mm,[]⟩
 | 63=>⟨34,[(14,.pd (I k)),(1,.pd (fcts facts)),(2,.vptr 2 0),(4,.pd (.raw (.map none))),(5,.vptr 5 0),(7,.vptr 7 0),(12,.pd (plans p.kids)),(13,.pd (I p.kids.length)),(18,.vptr 5 9),(19,.own 5005),(20,.pd (planT q)),(21,.pd (fcts facts)),(22,.pd (mref x.1)),(23,.pd (.list 1 [mref x.1]))],[(2,planC p),(5,planC p++[.pd (fcts facts),.own 5005]),(7,planC q)],[(5005,⟨95,1,X⟩)],(x.1,.map (encM x.2))::mm,[]⟩
 | 127=>⟨34,[(14,.pd (I k)),(1,.pd (fcts facts)),(2,.vptr 2 0),(4,.pd (.raw (.map none))),(5,.vptr 5 0),(7,.vptr 7 0),(12,.pd (plans p.kids)),(13,.pd (I p.kids.length)),(18,.vptr 5 9),(20,.pd (planT q)),(21,.pd (fcts facts)),(22,.pd (mref x.1)),(23,.pd (.list 1 [mref x.1])),(24,.own 5005)],[(2,planC p),(5,planC p++[.pd (fcts facts),.dead]),(7,planC q)],[(5005,⟨95,1,X++[mref x.1]⟩)],(x.1,.map (encM x.2))::mm,[]⟩
 | 255=>⟨34,[(14,.pd (I k)),(1,.pd (fcts facts)),(2,.vptr 2 0),(4,.pd (.raw (.map none))),(5,.vptr 5 0),(7,.vptr 7 0),(12,.pd (plans p.kids)),(13,.pd (I p.kids.length)),(18,.vptr 5 9),(20,.pd (planT q)),(21,.pd (fcts facts)),(22,.pd (mref x.1)),(23,.pd (.list 1 [mref x.1])),(24,.own 5005),(25,.vptr 5 9)],[(2,planC p),(5,planC p++[.pd (fcts facts),.dead]),(7,planC q)],[(5005,⟨95,1,X++[mref x.1]⟩)],(x.1,.map (encM x.2))::mm,[]⟩
 | 511=>⟨34,[(14,.pd (I k)),(1,.pd (fcts facts)),(2,.vptr 2 0),(4,.pd (.raw (.map none))),(5,.vptr 5 0),(7,.vptr 7 0),(12,.pd (plans p.kids)),(13,.pd (I p.kids.length)),(18,.vptr 5 9),(20,.pd (planT q)),(21,.pd (fcts facts)),(22,.pd (mref x.1)),(23,.pd (.list 1 [mref x.1])),(24,.own 5005),(25,.vptr 5 9)],[(2,planC p),(5,planC p++[.pd (fcts facts),.own 5005]),(7,planC q)],[(5005,⟨95,1,X++[mref x.1]⟩)],(x.1,.map (encM x.2))::mm,[]⟩
 | _=>⟨0,[],[],[],[],[]⟩
def es42:List (Nat × Nat):=[(0,0),(0,2),(0,3),(1,1),(1,2),(1,3),(4,0),(4,3),(8,0),(8,2),(3,2),(3,3),(5,1),(5,3),(9,1),(9,2),(12,0),(12,4),(7,3),(11,2),(13,1),(13,4),(28,0),(28,5),(15,4),(29,1),(29,5),(60,0),(31,5),(61,1),(63,6),(127,7),(255,8)]
theorem evaluate_walk {tl:List Tbl} {facts:List Fct} (hf:factsOk tl facts) (htl:∀ t∈tl,t.attrs.length≤200000000) (n:Nat) (p:Plan) (ho:okP p) (hkat:∀ q∈p.kids,q.attrs.length≤100000000) (hs:Shape tl n p) (ih:∀ q∈p.kids,FnM Tryz.prog 42 [.pd (plan q),.pd (fcts facts)] [] [] (evQ facts n q)) (hclo:∀ q∈p.kids,∀ m,EvN facts n q m→Clo facts.length q.attrs.length m):
  FnM Tryz.prog 42 [.pd (plan p),.pd (fcts facts)] [] [] (evQ facts (n+1) p):=by
 rw [plan_eq p]
 refine FnM.mk Tryz.func42 rfl ent42 (by simp [Tryz.ntmps42]) fun w G=>?_
 (refine ev8 ?_; simp only [go_sem])
 refine R.mkOwnV 5 9 5005 95 1 rfl rfl (by simp) rfl ?_
 (simp only [go_sem])
 refine R.famU (fun (x:List (Nat × AM)) s=>{ St.lp [1,2,4,5,12,13,27,28,29,30,31,32,33] [(14,.pd (I x.length))] [2] [(5,planC p++[.pd (fcts facts),.own 5005])] [] [(5005,⟨95,1,x.map fun q=>mref q.1⟩)] s with maps:=x.reverse.map mapO }) (fun (x:List (Nat × AM))=>x.length≤p.kids.length∧(x.map (·.1)).Nodup∧(∀ q∈x,w.heap.size≤q.1)∧∀ i (h:i<p.kids.length) (h2:i<x.length),EvN facts n p.kids[i] x[i].2) (fun (x:List (Nat × AM))=>p.kids.length - x.length) ([]) (⟨by simp,by simp,by simp,by simp⟩) (by (simp only [go_sem,List.reverse_nil]); all_goals (and_intros <;> first | rfl | simp)) ?_
 rintro x ⟨hk,hnd,hge,hev⟩
 (refine evC8 ?_; simp only [go_sem,List.cons.injEq,SV.pd.injEq,ite_self])
 refine ⟨fun h=>?_,fun h=>?_⟩
 ·have hlt:x.length<p.kids.length:=by simpa using h
  have hnm:((x.reverse.map mapO).map (·.1)).Nodup:=by
   have:(x.reverse.map mapO).map (·.1)=(x.map (·.1)).reverse:=by simp [mapO,Function.comp_def]
   rw [this]; exact List.pairwise_reverse.2 (hnd.imp fun h=>Ne.symm h)
  have hkl:=((okP_iff p).1 ho).2.2.2.1
  (refine evC8 ?_; simp only [go_sem,List.cons.injEq,SV.pd.injEq,getD_map,hlt,plan_eq p.kids[x.length]])
  (repeat (refine And.intro (by omega) ?_))
  have ihq:=ih p.kids[x.length] (List.getElem_mem hlt)
  rw [plan_eq] at ihq
  have hboom:EvX facts n p.kids[x.length]→EvX facts (n+1) p:=fun h=>.inl ⟨x.length,hlt,h⟩
  have hX:(x.map fun q=>mref q.1).length≤100000000:=by simp; omega
  generalize hq:p.kids[x.length]=q at ihq hboom
  generalize hXX:(x.map fun q=>mref q.1)=X at hX
  generalize hmm:x.reverse.map mapO=mm at hnm
  refine R.to (T42 p q facts x.length X mm (0,[]) 0) (by simp only [T42.eq_1]; (simp only [go_sem]); all_goals first | (and_intros <;> first | rfl | exact leM_same hnm) | exact leM_same hnm) ?_
  refine R.drawX (T42 p q facts x.length X mm) (fun y m=>m.testBit 4=true→y.1∉mm.map (·.1)∧w.heap.size≤y.1∧EvN facts n q y.2) es42 511 mixed (by kernel_rfl) (by kernel_rfl) (by kernel_rfl) (0,[]) (fun h=>absurd h (by decide)) (fun h=>h) ?_ ?_
  ·unfold es42
   refine List.forall_mem_cons.2 ⟨?_,?_⟩
   ·intro y0 hx
    simp only [T42.eq_1,Nat.reduceOr,Nat.reducePow,Nat.reduceShiftLeft]
    (refine ev8 ?_; simp only [go_sem])
    exact R.endE ⟨y0,(fun h=>by first | exact absurd h (by decide) | exact hx (by decide)),(T42.eq_2 p q facts x.length X mm y0).symm⟩ (by (simp only [go_sem]); first | (done) | (refine ⟨?_,?_⟩ <;> first | rfl | exact leM_same hnm | exact leM_next hnm (hx (by decide)).1) | exact leM_same hnm | exact leM_next hnm (hx (by decide)).1)
   refine List.forall_mem_cons.2 ⟨?_,?_⟩
   ·intro y0 hx
    simp only [T42.eq_1,Nat.reduceOr,Nat.reducePow,Nat.reduceShiftLeft]
    (refine ev8 ?_; simp only [go_sem])
    exact R.endE ⟨y0,(fun h=>by first | exact absurd h (by decide) | exact hx (by decide)),(T42.eq_4 p q facts x.length X mm y0).symm⟩ (by (simp only [go_sem]); first | (done) | (refine ⟨?_,?_⟩ <;> first | rfl | exact leM_same hnm | exact leM_next hnm (hx (by decide)).1) | exact leM_same hnm | exact leM_next hnm (hx (by decide)).1)
   refine List.forall_mem_cons.2 ⟨?_,?_⟩
   ·intro y0 hx
    simp only [T42.eq_1,Nat.reduceOr,Nat.reducePow,Nat.reduceShiftLeft]
    (refine ev8 ?_; simp only [go_sem])
    exact R.endE ⟨y0,(fun h=>by first | exact absurd h (by decide) | exact hx (by decide)),(T42.eq_7 p q facts x.length X mm y0).symm⟩ (by (simp only [go_sem]); first | (done) | (refine ⟨?_,?_⟩ <;> first | rfl | exact leM_same hnm | exact leM_next hnm (hx (by decide)).1) | exact leM_same hnm | exact leM_next hnm (hx (by decide)).1)
   refine List.forall_mem_cons.2 ⟨?_,?_⟩
   ·intro y0 hx
    simp only [T42.eq_2,Nat.reduceOr,Nat.reducePow,Nat.reduceShiftLeft]
    (refine ev8 ?_; simp only [go_sem])
    exact R.endE ⟨y0,(fun h=>by first | exact absurd h (by decide) | exact hx (by decide)),(T42.eq_3 p q facts x.length X mm y0).symm⟩ (by (simp only [go_sem]); first | (done) | (refine ⟨?_,?_⟩ <;> first | rfl | exact leM_same hnm | exact leM_next hnm (hx (by decide)).1) | exact leM_same hnm | exact leM_next hnm (hx (by decide)).1)
   refine List.forall_mem_cons.2 ⟨?_,?_⟩
   ·intro y0 hx
    simp only [T42.eq_2,Nat.reduceOr,Nat.reducePow,Nat.reduceShiftLeft]
    (refine ev8 ?_; simp only [go_sem])
    exact R.endE ⟨y0,(fun h=>by first | exact absurd h (by decide) | exact hx (by decide)),(T42.eq_5 p q facts x.length X mm y0).symm⟩ (by (simp only [go_sem]); first | (done) | (refine ⟨?_,?_⟩ <;> first | rfl | exact leM_same hnm | exact leM_next hnm (hx (by decide)).1) | exact leM_same hnm | exact leM_next hnm (hx (by decide)).1)
   refine List.forall_mem_cons.2 ⟨?_,?_⟩
   ·intro y0 hx
    simp only [T42.eq_2,Nat.reduceOr,Nat.reducePow,Nat.reduceShiftLeft]
    (refine ev8 ?_; simp only [go_sem])
    exact R.endE ⟨y0,(fun h=>by first | exact absurd h (by decide) | exact hx (by decide)),(T42.eq_8 p q facts x.length X mm y0).symm⟩ (by (simp only [go_sem]); first | (done) | (refine ⟨?_,?_⟩ <;> first | rfl | exact leM_same hnm | exact leM_next hnm (hx (by decide)).1) | exact leM_same hnm | exact leM_next hnm (hx (by decide)).1)
   refine List.forall_mem_cons.2 ⟨?_,?_⟩
   ·intro y0 hx
    simp only [T42.eq_4,Nat.reduceOr,Nat.reducePow,Nat.reduceShiftLeft]
    (refine ev8 ?_; simp only [go_sem])
    exact R.endE ⟨y0,(fun h=>by first | exact absurd h (by decide) | exact hx (by decide)),(T42.eq_5 p q facts x.length X mm y0).symm⟩ (by (simp only [go_sem]); first | (done) | (refine ⟨?_,?_⟩ <;> first | rfl | exact leM_same hnm | exact leM_next hnm (hx (by decide)).1) | exact leM_same hnm | exact leM_next hnm (hx (by decide)).1)
   refine List.forall_mem_cons.2 ⟨?_,?_⟩
   ·intro y0 hx
    simp only [T42.eq_4,Nat.reduceOr,Nat.reducePow,Nat.reduceShiftLeft]
    (refine ev8 ?_; simp only [go_sem])
    exact R.endE ⟨y0,(fun h=>by first | exact absurd h (by decide) | exact hx (by decide)),(T42.eq_10 p q facts x.length X mm y0).symm⟩ (by (simp only [go_sem]); first | (done) | (refine ⟨?_,?_⟩ <;> first | rfl | exact leM_same hnm | exact leM_next hnm (hx (by decide)).1) | exact leM_same hnm | exact leM_next hnm (hx (by decide)).1)
   refine List.forall_mem_cons.2 ⟨?_,?_⟩
   ·intro y0 hx
    simp only [T42.eq_7,Nat.reduceOr,Nat.reducePow,Nat.reduceShiftLeft]
    (refine ev8 ?_; simp only [go_sem])
    exact R.endE ⟨y0,(fun h=>by first | exact absurd h (by decide) | exact hx (by decide)),(T42.eq_8 p q facts x.length X mm y0).symm⟩ (by (simp only [go_sem]); first | (done) | (refine ⟨?_,?_⟩ <;> first | rfl | exact leM_same hnm | exact leM_next hnm (hx (by decide)).1) | exact leM_same hnm | exact leM_next hnm (hx (by decide)).1)
   refine List.forall_mem_cons.2 ⟨?_,?_⟩
   ·intro y0 hx
    simp only [T42.eq_7,Nat.reduceOr,Nat.reducePow,Nat.reduceShiftLeft]
    (refine ev8 ?_; simp only [go_sem])
    exact R.endE ⟨y0,(fun h=>by first | exact absurd h (by decide) | exact hx (by decide)),(T42.eq_10 p q facts x.length X mm y0).symm⟩ (by (simp only [go_sem]); first | (done) | (refine ⟨?_,?_⟩ <;> first | rfl | exact leM_same hnm | exact leM_next hnm (hx (by decide)).1) | exact leM_same hnm | exact leM_next hnm (hx (by decide)).1)
   refine List.forall_mem_cons.2 ⟨?_,?_⟩
   ·intro y0 hx
    simp only [T42.eq_3,Nat.reduceOr,Nat.reducePow,Nat.reduceShiftLeft]
    (refine ev8 ?_; simp only [go_sem])
    exact R.endE ⟨y0,(fun h=>by first | exact absurd h (by decide) | exact hx (by decide)),(T42.eq_6 p q facts x.length X mm y0).symm⟩ (by (simp only [go_sem]); first | (done) | (refine ⟨?_,?_⟩ <;> first | rfl | exact leM_same hnm | exact leM_next hnm (hx (by decide)).1) | exact leM_same hnm | exact leM_next hnm (hx (by decide)).1)
   refine List.forall_mem_cons.2 ⟨?_,?_⟩
   ·intro y0 hx
    simp only [T42.eq_3,Nat.reduceOr,Nat.reducePow,Nat.reduceShiftLeft]
    (refine ev8 ?_; simp only [go_sem])
    exact R.endE ⟨y0,(fun h=>by first | exact absurd h (by decide) | exact hx (by decide)),(T42.eq_9 p q facts x.length X mm y0).symm⟩ (by (simp only [go_sem]); first | (done) | (refine ⟨?_,?_⟩ <;> first | rfl | exact leM_same hnm | exact leM_next hnm (hx (by decide)).1) | exact leM_same hnm | exact leM_next hnm (hx (by decide)).1)
   refine List.forall_mem_cons.2 ⟨?_,?_⟩
   ·intro y0 hx
    simp only [T42.eq_5,Nat.reduceOr,Nat.reducePow,Nat.reduceShiftLeft]
    (refine ev8 ?_; simp only [go_sem])
    exact R.endE ⟨y0,(fun h=>by first | exact absurd h (by decide) | exact hx (by decide)),(T42.eq_6 p q facts x.length X mm y0).symm⟩ (by (simp only [go_sem]); first | (done) | (refine ⟨?_,?_⟩ <;> first | rfl | exact leM_same hnm | exact leM_next hnm (hx (by decide)).1) | exact leM_same hnm | exact leM_next hnm (hx (by decide)).1)
   refine List.forall_mem_cons.2 ⟨?_,?_⟩
   ·intro y0 hx
    simp only [T42.eq_5,Nat.reduceOr,Nat.reducePow,Nat.reduceShiftLeft]
    (refine ev8 ?_; simp only [go_sem])
    exact R.endE ⟨y0,(fun h=>by first | exact absurd h (by decide) | exact hx (by decide)),(T42.eq_11 p q facts x.length X mm y0).symm⟩ (by (simp only [go_sem]); first | (done) | (refine ⟨?_,?_⟩ <;> first | rfl | exact leM_same hnm | exact leM_next hnm (hx (by decide)).1) | exact leM_same hnm | exact leM_next hnm (hx (by decide)).1)
   refine List.forall_mem_cons.2 ⟨?_,?_⟩
   ·intro y0 hx
    simp only [T42.eq_8,Nat.reduceOr,Nat.reducePow,Nat.reduceShiftLeft]
    (refine ev8 ?_; simp only [go_sem])
    exact R.endE ⟨y0,(fun h=>by first | exact absurd h (by decide) | exact hx (by decide)),(T42.eq_9 p q facts x.length X mm y0).symm⟩ (by (simp only [go_sem]); first | (done) | (refine ⟨?_,?_⟩ <;> first | rfl | exact leM_same hnm | exact leM_next hnm (hx (by decide)).1) | exact leM_same hnm | exact leM_next hnm (hx (by decide)).1)
   refine List.forall_mem_cons.2 ⟨?_,?_⟩
   ·intro y0 hx
    simp only [T42.eq_8,Nat.reduceOr,Nat.reducePow,Nat.reduceShiftLeft]
    (refine ev8 ?_; simp only [go_sem])
    exact R.endE ⟨y0,(fun h=>by first | exact absurd h (by decide) | exact hx (by decide)),(T42.eq_11 p q facts x.length X mm y0).symm⟩ (by (simp only [go_sem]); first | (done) | (refine ⟨?_,?_⟩ <;> first | rfl | exact leM_same hnm | exact leM_next hnm (hx (by decide)).1) | exact leM_same hnm | exact leM_next hnm (hx (by decide)).1)
   refine List.forall_mem_cons.2 ⟨?_,?_⟩
   ·intro y0 hx
    simp only [T42.eq_10,Nat.reduceOr,Nat.reducePow,Nat.reduceShiftLeft]
    (refine ev8 ?_; simp only [go_sem])
    exact R.endE ⟨y0,(fun h=>by first | exact absurd h (by decide) | exact hx (by decide)),(T42.eq_11 p q facts x.length X mm y0).symm⟩ (by (simp only [go_sem]); first | (done) | (refine ⟨?_,?_⟩ <;> first | rfl | exact leM_same hnm | exact leM_next hnm (hx (by decide)).1) | exact leM_same hnm | exact leM_next hnm (hx (by decide)).1)
   refine List.forall_mem_cons.2 ⟨?_,?_⟩
   ·intro y0 hx
    simp only [T42.eq_10,Nat.reduceOr,Nat.reducePow,Nat.reduceShiftLeft]
    (refine ev8 ?_; simp only [go_sem])
    refine R.callM (by rfl) 77 (by rfl) rfl rfl (dstP_ok (by (simp only [go_sem]))) (.cons (.pd _) (.cons (.pd _) .nil)) ihq (fun r' m' h=>by simp [lk] at h) (fun r' h=>by simp at h) ?_
    rintro res M' (⟨r,m,rfl,rfl,hev2⟩ | ⟨rfl,rfl,hx2⟩) hh
    ·rcases hh r (encM m) (by simp [lk]) with h | ⟨h1,h2⟩
     ·simp at h
     have hr:=lk_none h2
     simp only [Behind,after_nil,List.map_cons,List.map_nil,List.cons_append,List.nil_append]
     (refine ev8 ?_; simp only [go_sem])
     exact R.endE ⟨(r,m),(fun _=>⟨hr,h1,hev2⟩),(T42.eq_13 p q facts x.length X mm (r,m)).symm⟩ (by (simp only [go_sem]); first | (done) | (refine ⟨?_,?_⟩ <;> first | rfl | exact leM_next hnm hr) | exact leM_next hnm hr)
    ·simp only [Behind]
     exact fun a w E g=>boomM (.inr ⟨rfl,rfl,hboom hx2⟩) g
   refine List.forall_mem_cons.2 ⟨?_,?_⟩
   ·intro y0 hx
    simp only [T42.eq_6,Nat.reduceOr,Nat.reducePow,Nat.reduceShiftLeft]
    (refine ev8 ?_; simp only [go_sem])
    exact R.endE ⟨y0,(fun h=>by first | exact absurd h (by decide) | exact hx (by decide)),(T42.eq_12 p q facts x.length X mm y0).symm⟩ (by (simp only [go_sem]); first | (done) | (refine ⟨?_,?_⟩ <;> first | rfl | exact leM_same hnm | exact leM_next hnm (hx (by decide)).1) | exact leM_same hnm | exact leM_next hnm (hx (by decide)).1)
   refine List.forall_mem_cons.2 ⟨?_,?_⟩
   ·intro y0 hx
    simp only [T42.eq_9,Nat.reduceOr,Nat.reducePow,Nat.reduceShiftLeft]
    (refine ev8 ?_; simp only [go_sem])
    exact R.endE ⟨y0,(fun h=>by first | exact absurd h (by decide) | exact hx (by decide)),(T42.eq_12 p q facts x.length X mm y0).symm⟩ (by (simp only [go_sem]); first | (done) | (refine ⟨?_,?_⟩ <;> first | rfl | exact leM_same hnm | exact leM_next hnm (hx (by decide)).1) | exact leM_same hnm | exact leM_next hnm (hx (by decide)).1)
   refine List.forall_mem_cons.2 ⟨?_,?_⟩
   ·intro y0 hx
    simp only [T42.eq_11,Nat.reduceOr,Nat.reducePow,Nat.reduceShiftLeft]
    (refine ev8 ?_; simp only [go_sem])
    exact R.endE ⟨y0,(fun h=>by first | exact absurd h (by decide) | exact hx (by decide)),(T42.eq_12 p q facts x.length X mm y0).symm⟩ (by (simp only [go_sem]); first | (done) | (refine ⟨?_,?_⟩ <;> first | rfl | exact leM_same hnm | exact leM_next hnm (hx (by decide)).1) | exact leM_same hnm | exact leM_next hnm (hx (by decide)).1)
   refine List.forall_mem_cons.2 ⟨?_,?_⟩
   ·intro y0 hx
    simp only [T42.eq_11,Nat.reduceOr,Nat.reducePow,Nat.reduceShiftLeft]
    (refine ev8 ?_; simp only [go_sem])
    refine R.callM (by rfl) 77 (by rfl) rfl rfl (dstP_ok (by (simp only [go_sem]))) (.cons (.pd _) (.cons (.pd _) .nil)) ihq (fun r' m' h=>by simp [lk] at h) (fun r' h=>by simp at h) ?_
    rintro res M' (⟨r,m,rfl,rfl,hev2⟩ | ⟨rfl,rfl,hx2⟩) hh
    ·rcases hh r (encM m) (by simp [lk]) with h | ⟨h1,h2⟩
     ·simp at h
     have hr:=lk_none h2
     simp only [Behind,after_nil,List.map_cons,List.map_nil,List.cons_append,List.nil_append]
     (refine ev8 ?_; simp only [go_sem])
     exact R.endE ⟨(r,m),(fun _=>⟨hr,h1,hev2⟩),(T42.eq_14 p q facts x.length X mm (r,m)).symm⟩ (by (simp only [go_sem]); first | (done) | (refine ⟨?_,?_⟩ <;> first | rfl | exact leM_next hnm hr) | exact leM_next hnm hr)
    ·simp only [Behind]
     exact fun a w E g=>boomM (.inr ⟨rfl,rfl,hboom hx2⟩) g
   refine List.forall_mem_cons.2 ⟨?_,?_⟩
   ·intro y0 hx
    simp only [T42.eq_13,Nat.reduceOr,Nat.reducePow,Nat.reduceShiftLeft]
    (refine ev8 ?_; simp only [go_sem])
    exact R.endE ⟨y0,(fun h=>by first | exact absurd h (by decide) | exact hx (by decide)),(T42.eq_14 p q facts x.length X mm y0).symm⟩ (by (simp only [go_sem]); first | (done) | (refine ⟨?_,?_⟩ <;> first | rfl | exact leM_same hnm | exact leM_next hnm (hx (by decide)).1) | exact leM_same hnm | exact leM_next hnm (hx (by decide)).1)
   refine List.forall_mem_cons.2 ⟨?_,?_⟩
   ·intro y0 hx
    simp only [T42.eq_13,Nat.reduceOr,Nat.reducePow,Nat.reduceShiftLeft]
    (refine ev8 ?_; simp only [go_sem])
    exact R.endE ⟨y0,(fun h=>by first | exact absurd h (by decide) | exact hx (by decide)),(T42.eq_16 p q facts x.length X mm y0).symm⟩ (by (simp only [go_sem]); first | (done) | (refine ⟨?_,?_⟩ <;> first | rfl | exact leM_same hnm | exact leM_next hnm (hx (by decide)).1) | exact leM_same hnm | exact leM_next hnm (hx (by decide)).1)
   refine List.forall_mem_cons.2 ⟨?_,?_⟩
   ·intro y0 hx
    simp only [T42.eq_12,Nat.reduceOr,Nat.reducePow,Nat.reduceShiftLeft]
    (refine ev8 ?_; simp only [go_sem])
    refine R.callM (by rfl) 77 (by rfl) rfl rfl (dstP_ok (by (simp only [go_sem]))) (.cons (.pd _) (.cons (.pd _) .nil)) ihq (fun r' m' h=>by simp [lk] at h) (fun r' h=>by simp at h) ?_
    rintro res M' (⟨r,m,rfl,rfl,hev2⟩ | ⟨rfl,rfl,hx2⟩) hh
    ·rcases hh r (encM m) (by simp [lk]) with h | ⟨h1,h2⟩
     ·simp at h
     have hr:=lk_none h2
     simp only [Behind,after_nil,List.map_cons,List.map_nil,List.cons_append,List.nil_append]
     (refine ev8 ?_; simp only [go_sem])
     exact R.endE ⟨(r,m),(fun _=>⟨hr,h1,hev2⟩),(T42.eq_15 p q facts x.length X mm (r,m)).symm⟩ (by (simp only [go_sem]); first | (done) | (refine ⟨?_,?_⟩ <;> first | rfl | exact leM_next hnm hr) | exact leM_next hnm hr)
    ·simp only [Behind]
     exact fun a w E g=>boomM (.inr ⟨rfl,rfl,hboom hx2⟩) g
   refine List.forall_mem_cons.2 ⟨?_,?_⟩
   ·intro y0 hx
    simp only [T42.eq_14,Nat.reduceOr,Nat.reducePow,Nat.reduceShiftLeft]
    (refine ev8 ?_; simp only [go_sem])
    exact R.endE ⟨y0,(fun h=>by first | exact absurd h (by decide) | exact hx (by decide)),(T42.eq_15 p q facts x.length X mm y0).symm⟩ (by (simp only [go_sem]); first | (done) | (refine ⟨?_,?_⟩ <;> first | rfl | exact leM_same hnm | exact leM_next hnm (hx (by decide)).1) | exact leM_same hnm | exact leM_next hnm (hx (by decide)).1)
   refine List.forall_mem_cons.2 ⟨?_,?_⟩
   ·intro y0 hx
    simp only [T42.eq_14,Nat.reduceOr,Nat.reducePow,Nat.reduceShiftLeft]
    (refine ev8 ?_; simp only [go_sem])
    exact R.endE ⟨y0,(fun h=>by first | exact absurd h (by decide) | exact hx (by decide)),(T42.eq_17 p q facts x.length X mm y0).symm⟩ (by (simp only [go_sem]); first | (done) | (refine ⟨?_,?_⟩ <;> first | rfl | exact leM_same hnm | exact leM_next hnm (hx (by decide)).1) | exact leM_same hnm | exact leM_next hnm (hx (by decide)).1)
   refine List.forall_mem_cons.2 ⟨?_,?_⟩
   ·intro y0 hx
    simp only [T42.eq_16,Nat.reduceOr,Nat.reducePow,Nat.reduceShiftLeft]
    (refine ev8 ?_; simp only [go_sem])
    exact R.endE ⟨y0,(fun h=>by first | exact absurd h (by decide) | exact hx (by decide)),(T42.eq_17 p q facts x.length X mm y0).symm⟩ (by (simp only [go_sem]); first | (done) | (refine ⟨?_,?_⟩ <;> first | rfl | exact leM_same hnm | exact leM_next hnm (hx (by decide)).1) | exact leM_same hnm | exact leM_next hnm (hx (by decide)).1)
   refine List.forall_mem_cons.2 ⟨?_,?_⟩
   ·intro y0 hx
    simp only [T42.eq_15,Nat.reduceOr,Nat.reducePow,Nat.reduceShiftLeft]
    (refine ev8 ?_; simp only [go_sem])
    exact R.endE ⟨y0,(fun h=>by first | exact absurd h (by decide) | exact hx (by decide)),(T42.eq_18 p q facts x.length X mm y0).symm⟩ (by (simp only [go_sem]); first | (done) | (refine ⟨?_,?_⟩ <;> first | rfl | exact leM_same hnm | exact leM_next hnm (hx (by decide)).1) | exact leM_same hnm | exact leM_next hnm (hx (by decide)).1)
   refine List.forall_mem_cons.2 ⟨?_,?_⟩
   ·intro y0 hx
    simp only [T42.eq_17,Nat.reduceOr,Nat.reducePow,Nat.reduceShiftLeft]
    (refine ev8 ?_; simp only [go_sem])
    exact R.endE ⟨y0,(fun h=>by first | exact absurd h (by decide) | exact hx (by decide)),(T42.eq_18 p q facts x.length X mm y0).symm⟩ (by (simp only [go_sem]); first | (done) | (refine ⟨?_,?_⟩ <;> first | rfl | exact leM_same hnm | exact leM_next hnm (hx (by decide)).1) | exact leM_same hnm | exact leM_next hnm (hx (by decide)).1)
   refine List.forall_mem_cons.2 ⟨?_,?_⟩
   ·intro y0 hx
    simp only [T42.eq_18,Nat.reduceOr,Nat.reducePow,Nat.reduceShiftLeft]
    refine R.append1 (r:=⟨95,1,X⟩) (d:=mref y0.1) 1000000000 8 rfl rfl (by (simp only [go_sem])) rfl rfl rfl rfl sl135 rfl sz95 (by simp) (congrArg (Option.map List.length) ze95) rfl by95 (by simp; omega) (by decide) (by decide) ?_
    (refine ev8 ?_; simp only [go_sem])
    exact R.endE ⟨y0,(fun h=>by first | exact absurd h (by decide) | exact hx (by decide)),(T42.eq_19 p q facts x.length X mm y0).symm⟩ (by (simp only [go_sem]); first | (done) | (refine ⟨?_,?_⟩ <;> first | rfl | exact leM_same hnm | exact leM_next hnm (hx (by decide)).1) | exact leM_same hnm | exact leM_next hnm (hx (by decide)).1)
   refine List.forall_mem_cons.2 ⟨?_,?_⟩
   ·intro y0 hx
    simp only [T42.eq_19,Nat.reduceOr,Nat.reducePow,Nat.reduceShiftLeft]
    (refine ev8 ?_; simp only [go_sem])
    exact R.endE ⟨y0,(fun h=>by first | exact absurd h (by decide) | exact hx (by decide)),(T42.eq_20 p q facts x.length X mm y0).symm⟩ (by (simp only [go_sem]); first | (done) | (refine ⟨?_,?_⟩ <;> first | rfl | exact leM_same hnm | exact leM_next hnm (hx (by decide)).1) | exact leM_same hnm | exact leM_next hnm (hx (by decide)).1)
   refine List.forall_mem_cons.2 ⟨?_,?_⟩
   ·intro y0 hx
    simp only [T42.eq_20,Nat.reduceOr,Nat.reducePow,Nat.reduceShiftLeft]
    (refine ev8 ?_; simp only [go_sem])
    exact R.endE ⟨y0,(fun h=>by first | exact absurd h (by decide) | exact hx (by decide)),(T42.eq_21 p q facts x.length X mm y0).symm⟩ (by (simp only [go_sem]); first | (done) | (refine ⟨?_,?_⟩ <;> first | rfl | exact leM_same hnm | exact leM_next hnm (hx (by decide)).1) | exact leM_same hnm | exact leM_next hnm (hx (by decide)).1)
   exact List.forall_mem_nil _
  ·intro y hy
   obtain ⟨hy1,hy2,hy3⟩:=hy (by decide)
   simp only [T42.eq_21]
   subst hXX; subst hmm; subst hq
   have hynot:y.1∉x.map (·.1):=fun hin=>hy1 (by
    obtain ⟨q,hq,e⟩:=List.mem_map.1 hin
    exact List.mem_map.2 ⟨mapO q,List.mem_map.2 ⟨q,by simpa using hq,rfl⟩,e⟩)
   (refine ev8 ?_; simp only [go_sem,wrapN (k:=x.length) (by omega)])
   refine R.famEnd (x++[y]) ⟨by simp; omega,by rw [List.map_append]; exact List.nodup_append.2 ⟨hnd,by simp,fun a ha b hb e=>by simp at hb; subst hb; subst e; exact hynot ha⟩,fun q hq=>?_,fun i hi hi2=>?_⟩ (by show _<_; simp; omega) ?_
   ·rcases List.mem_append.1 hq with h | h
    ·exact hge q h
    ·rw [List.mem_singleton.1 h]; exact hy2
   ·by_cases e:i<x.length
    ·have:(x++[y])[i]=x[i]:=List.getElem_append_left e
     rw [this]; exact hev i hi e
    ·have e2:i=x.length:=by simp at hi2; omega
     subst e2
     simp only [List.getElem_append_right (Nat.le_refl _),Nat.sub_self,List.getElem_cons_zero]
     exact hy3
   ·(simp only [go_sem,List.length_append,List.map_append,List.reverse_append,List.reverse_cons,List.reverse_nil])
    exact ⟨by simp [mapO],leM_next hnm hy1⟩
 ·have hlen:x.length=p.kids.length:=by
   have h':¬ x.length<p.kids.length:=(by simpa using h)
   omega
  have hat:p.attrs.length≤200000000:=by have:=((okP_iff p).1 ho).1; omega
  have hfl:facts.length≤1000000:=by have:=hf.1; omega
  have hs0:=hs
  have hmsl:(x.map (·.2)).length=p.kids.length:=by simpa using hlen
  have hmsE:∀ i (h:i<p.kids.length) (h2:i<(x.map (·.2)).length),EvN facts n p.kids[i] (x.map (·.2))[i]:=fun i h h2=>by
   simp only [List.getElem_map]; exact hev i h (by simpa using h2)
  have hmsC:∀ i (h:i<p.kids.length) (h2:i<(x.map (·.2)).length),Clo facts.length p.kids[i].attrs.length (x.map (·.2))[i]:=fun i h h2=>hclo _ (List.getElem_mem h) _ (hmsE i h h2)
  have hA:∀ L0 L,kidAdds p facts (x.map (·.2))=some L0→L.Perm L0→Adds facts.length p.attrs.length L:=fun L0 L h hp=>(kid_adds hf hs0 hmsl hmsC h).perm hp.symm
  have hEv:∀ L0 L,kidAdds p facts (x.map (·.2))=some L0→L.Perm L0→closeOk (runA L)→EvN facts (n+1) p (closeA (runA L)):=fun L0 L h hp hc=>⟨_,hmsl,hmsE,L0,L,h,hp,hc,rfl⟩
  have hEx:∀ L0 L,kidAdds p facts (x.map (·.2))=some L0→L.Perm L0→¬ closeOk (runA L)→EvX facts (n+1) p:=fun L0 L h hp hc=>.inr ⟨_,hmsl,hmsE,.inr ⟨L0,L,h,hp,hc⟩⟩
  have hEn:kidAdds p facts (x.map (·.2))=none→EvX facts (n+1) p:=fun h=>.inr ⟨_,hmsl,hmsE,.inl h⟩
  clear hev
  (refine ev8 ?_; simp only [go_sem])
  refine R.frz 5005 rfl rfl ?_
  (simp only [go_sem])
  cases hs with
  | table hkd hks h0 h1 hl=>
   rw [hks] at hlen
   obtain rfl:x=[]:=List.length_eq_zero_iff.1 (by simpa using hlen)
   have hkid:kidAdds p facts ([]:List AM)=some (tabAdds p.table facts):=by unfold kidAdds; rw [if_pos hkd]
   simp only [List.map_nil] at hA hEv hEx hEn
   refine R.drawE 5 80 mixed (by kernel_rfl) ?_; simp only [go_sem]
   refine RY.callW (by rfl) (wkinds_ok) rfl rfl (.nil) (by simp [plain,PD.plain]) (by simp only [go_sem]) ?_
   (refine evY_ok 80 _ _ ?_; simp only [go_sem])
   refine ⟨_,.inl ⟨rfl,.look 139 _ _ false _ _ (key p.kind) 3 138 (.int .i64) (F 150) rfl rfl rfl mp139 true (by rw [hkd]; exact ⟨rfl,by simp [wkindsM,keyOk],by simp [wkindsM],0,by simp [wkindsM],rfl,rfl⟩)⟩,dstP_ok (by (simp only [go_sem])),?_⟩
   (refine evY_ok 80 _ _ ?_; simp only [go_sem])
   have hcon:=wtable_ok p facts [] (by have:=hf.1; omega) (fun f hfm=>by
    obtain ⟨_,h3,h4⟩:=hf.2 f hfm
    obtain ⟨h5,h6⟩:=fits_valid h4
    have hta:(tl[f.table.toNat]).attrs.length≤200000000:=htl _ (List.getElem_mem h3)
    exact okRow_of h6 (by omega))
   refine R.callMraw (t:=30) (f:=150) (by rfl) 60 (by rfl) rfl rfl rfl (dstP_ok (by (simp only [go_sem]))) (.cons (.pd _) .nil) hcon (fun r' m' h=>?_) (fun r' h=>by simp at h) ?_
   ·simp [lk] at h
   rintro res M' ⟨r0,rfl,rfl⟩ hh
   have hrr:w.heap.size≤r0:=by
    rcases hh r0 _ (if_pos rfl) with h | h
    ·simp at h
    ·exact h.1
   clear hh
   have hperm:(tabAdds p.table facts).Perm (tabAdds p.table facts):=.refl _
   rw [tabL_runA]
   simp only [Behind]
   (refine ev8 ?_; simp only [go_sem])
   refine R.callM (by rfl) 60 (by rfl) rfl rfl (dstP_ok (by (simp only [go_sem]))) (.cons (.pd _) .nil) (wclose_ok r0 (runA (tabAdds p.table facts)) (runA_nodup (tabAdds p.table facts)) ((hA _ _ hkid hperm).okL hfl)) (fun r' m' h=>?_) (fun r' h=>?_) ?_
   ·simp only [lk] at h
    split at h
    ·rename_i e; subst e; cases h; simp [St.map,St.put,St.set,lk,after,mapO]
    ·cases h
   ·simp only [List.mem_singleton] at h; subst h; exact ⟨by simp [lk],.inl hrr⟩
   rintro res M' (⟨hc,rfl,rfl⟩ | ⟨hc,rfl,rfl⟩) hh <;> clear hh
   ·simp only [Behind]
    (refine ev8 ?_; simp only [go_sem])
    refine R.retM (vc:=True) [(r0,encM (closeA (runA (tabAdds p.table facts))))] rfl trivial (.inl ⟨r0,_,rfl,rfl,hEv _ _ hkid hperm hc⟩) (fun r' m' h=>?_)
    simp only [lk] at h
    split at h
    ·rename_i e; subst e; cases h; exact ⟨by simp [St.map,lk,after],.inr hrr⟩
    ·cases h
   ·simp only [Behind]
    exact fun a w E g=>boomM (.inr ⟨rfl,rfl,hEx _ _ hkid hperm hc⟩) g
  | sel hkd q hks hq hsv hl=>
   rw [hks] at hlen hmsl
   obtain ⟨⟨r1,m1⟩,rfl⟩:=List.length_eq_one_iff.1 hlen
   have c1:Clo facts.length q.attrs.length m1:=by
    have:=hmsC 0 (by rw [hks]; simp) (by simp)
    simpa [hks] using this
   have hkid:kidAdds p facts [m1]=some (m1.flatMap (selG p)):=by unfold kidAdds; rw [if_neg (by omega),hks]; simp [hkd]
   simp only [List.map_cons,List.map_nil] at hA hEv hEx hEn
   refine R.drawE 5 80 mixed (by kernel_rfl) ?_; simp only [go_sem]
   refine RY.callW (by rfl) (wkinds_ok) rfl rfl (.nil) (by simp [plain,PD.plain]) (by simp only [go_sem]) ?_
   (refine evY_ok 80 _ _ ?_; simp only [go_sem])
   refine ⟨_,.inl ⟨rfl,.look 139 _ _ false _ _ (key p.kind) 3 138 (.int .i64) (F 151) rfl rfl rfl mp139 true (by rw [hkd]; exact ⟨rfl,by simp [wkindsM,keyOk],by simp [wkindsM],1,by simp [wkindsM],rfl,rfl⟩)⟩,dstP_ok (by (simp only [go_sem])),?_⟩
   (refine evY_ok 80 _ _ ?_; simp only [go_sem])
   have hcon:=wsel_ok p facts r1 m1 c1.nodup (fun q1 hq1 t ht=>sides_ok hsv (c1.width q1 hq1) t ht) ((hA _ _ hkid (.refl _)).ok hat)
   refine R.callMraw (t:=30) (f:=151) (by rfl) 60 (by rfl) rfl rfl rfl (dstP_ok (by (simp only [go_sem]))) (.cons (.pd _) .nil) hcon (fun r' m' h=>?_) (fun r' h=>by simp at h) ?_
   ·simp only [lk] at h
    split at h
    ·rename_i e; subst e; cases h; simp [St.map,St.put,St.set,lk,mapO]
    ·cases h
   rintro res M' ⟨r0,L,rfl,rfl,hperm⟩ hh
   have hrr:w.heap.size≤r0:=by
    rcases hh r0 _ (if_pos rfl) with h | h
    ·simp at h
    ·exact h.1
   clear hh
   simp only [Behind]
   (refine ev8 ?_; simp only [go_sem])
   refine R.callM (by rfl) 60 (by rfl) rfl rfl (dstP_ok (by (simp only [go_sem]))) (.cons (.pd _) .nil) (wclose_ok r0 (runA L) (runA_nodup L) ((hA _ _ hkid hperm).okL hfl)) (fun r' m' h=>?_) (fun r' h=>?_) ?_
   ·simp only [lk] at h
    split at h
    ·rename_i e; subst e; cases h; simp [St.map,St.put,St.set,lk,after,mapO]
    ·cases h
   ·simp only [List.mem_singleton] at h; subst h; exact ⟨by simp [lk],.inl hrr⟩
   rintro res M' (⟨hc,rfl,rfl⟩ | ⟨hc,rfl,rfl⟩) hh <;> clear hh
   ·simp only [Behind]
    (refine ev8 ?_; simp only [go_sem])
    refine R.retM (vc:=True) [(r0,encM (closeA (runA L)))] rfl trivial (.inl ⟨r0,_,rfl,rfl,hEv _ _ hkid hperm hc⟩) (fun r' m' h=>?_)
    simp only [lk] at h
    split at h
    ·rename_i e; subst e; cases h; exact ⟨by simp [St.map,lk,after],.inr hrr⟩
    ·cases h
   ·simp only [Behind]
    exact fun a w E g=>boomM (.inr ⟨rfl,rfl,hEx _ _ hkid hperm hc⟩) g
  | proj hkd q hks hq hcc hl=>
   rw [hks] at hlen hmsl
   obtain ⟨⟨r1,m1⟩,rfl⟩:=List.length_eq_one_iff.1 hlen
   have c1:Clo facts.length q.attrs.length m1:=by
    have:=hmsC 0 (by rw [hks]; simp) (by simp)
    simpa [hks] using this
   have hkid:kidAdds p facts [m1]=some (m1.flatMap (projG p)):=by unfold kidAdds; rw [if_neg (by omega),hks]; simp [hkd]
   simp only [List.map_cons,List.map_nil] at hA hEv hEx hEn
   refine R.drawE 5 80 mixed (by kernel_rfl) ?_; simp only [go_sem]
   refine RY.callW (by rfl) (wkinds_ok) rfl rfl (.nil) (by simp [plain,PD.plain]) (by simp only [go_sem]) ?_
   (refine evY_ok 80 _ _ ?_; simp only [go_sem])
   refine ⟨_,.inl ⟨rfl,.look 139 _ _ false _ _ (key p.kind) 3 138 (.int .i64) (F 152) rfl rfl rfl mp139 true (by rw [hkd]; exact ⟨rfl,by simp [wkindsM,keyOk],by simp [wkindsM],2,by simp [wkindsM],rfl,rfl⟩)⟩,dstP_ok (by (simp only [go_sem])),?_⟩
   (refine evY_ok 80 _ _ ?_; simp only [go_sem])
   have hcon:=wproject_ok p facts r1 m1 c1.nodup ((okP_iff p).1 ho).2.1 (fun q1 hq1 c hc=>by rw [c1.width q1 hq1]; exact hcc c hc) ((hA _ _ hkid (.refl _)).ok hat)
   refine R.callMraw (t:=30) (f:=152) (by rfl) 60 (by rfl) rfl rfl rfl (dstP_ok (by (simp only [go_sem]))) (.cons (.pd _) .nil) hcon (fun r' m' h=>?_) (fun r' h=>by simp at h) ?_
   ·simp only [lk] at h
    split at h
    ·rename_i e; subst e; cases h; simp [St.map,St.put,St.set,lk,mapO]
    ·cases h
   rintro res M' ⟨r0,L,rfl,rfl,hperm⟩ hh
   have hrr:w.heap.size≤r0:=by
    rcases hh r0 _ (if_pos rfl) with h | h
    ·simp at h
    ·exact h.1
   clear hh
   simp only [Behind]
   (refine ev8 ?_; simp only [go_sem])
   refine R.callM (by rfl) 60 (by rfl) rfl rfl (dstP_ok (by (simp only [go_sem]))) (.cons (.pd _) .nil) (wclose_ok r0 (runA L) (runA_nodup L) ((hA _ _ hkid hperm).okL hfl)) (fun r' m' h=>?_) (fun r' h=>?_) ?_
   ·simp only [lk] at h
    split at h
    ·rename_i e; subst e; cases h; simp [St.map,St.put,St.set,lk,after,mapO]
    ·cases h
   ·simp only [List.mem_singleton] at h; subst h; exact ⟨by simp [lk],.inl hrr⟩
   rintro res M' (⟨hc,rfl,rfl⟩ | ⟨hc,rfl,rfl⟩) hh <;> clear hh
   ·simp only [Behind]
    (refine ev8 ?_; simp only [go_sem])
    refine R.retM (vc:=True) [(r0,encM (closeA (runA L)))] rfl trivial (.inl ⟨r0,_,rfl,rfl,hEv _ _ hkid hperm hc⟩) (fun r' m' h=>?_)
    simp only [lk] at h
    split at h
    ·rename_i e; subst e; cases h; exact ⟨by simp [St.map,lk,after],.inr hrr⟩
    ·cases h
   ·simp only [Behind]
    exact fun a w E g=>boomM (.inr ⟨rfl,rfl,hEx _ _ hkid hperm hc⟩) g
  | join hkd q r hks hq hr hn hj=>
   rw [hks] at hlen hmsl
   obtain ⟨⟨r1,m1⟩,⟨r2,m2⟩,rfl⟩:=two_of hlen
   have c1:Clo facts.length q.attrs.length m1:=by
    have:=hmsC 0 (by rw [hks]; simp) (by simp)
    simpa [hks] using this
   have c2:Clo facts.length r.attrs.length m2:=by
    have:=hmsC 1 (by rw [hks]; simp) (by simp)
    simpa [hks] using this
   have h12:r1≠r2:=by simpa using hnd
   have hkid:kidAdds p facts [m1,m2]=some (m1.flatMap fun q1=>m2.flatMap (joinG q.attrs r.attrs q1)):=by unfold kidAdds; rw [if_neg (by omega),hks]; simp [hkd]
   simp only [List.map_cons,List.map_nil] at hA hEv hEx hEn
   refine R.drawE 5 80 mixed (by kernel_rfl) ?_; simp only [go_sem]
   refine RY.callW (by rfl) (wkinds_ok) rfl rfl (.nil) (by simp [plain,PD.plain]) (by simp only [go_sem]) ?_
   (refine evY_ok 80 _ _ ?_; simp only [go_sem])
   refine ⟨_,.inl ⟨rfl,.look 139 _ _ false _ _ (key p.kind) 3 138 (.int .i64) (F 153) rfl rfl rfl mp139 true (by rw [hkd]; exact ⟨rfl,by simp [wkindsM,keyOk],by simp [wkindsM],3,by simp [wkindsM],rfl,rfl⟩)⟩,dstP_ok (by (simp only [go_sem])),?_⟩
   (refine evY_ok 80 _ _ ?_; simp only [go_sem])
   have hcon:=wjoin_ok p q r facts hks r1 r2 m1 m2 h12 c1.nodup c2.nodup (c1.lens hfl) (c2.lens hfl) hn (hkat q (by rw [hks]; simp)) (hkat r (by rw [hks]; simp)) c1.width c2.width ((hA _ _ hkid (.refl _)).ok hat)
   refine R.callMraw (t:=30) (f:=153) (by rfl) 60 (by rfl) rfl rfl rfl (dstP_ok (by (simp only [go_sem]))) (.cons (.pd _) .nil) hcon (fun r' m' h=>?_) (fun r' h=>by simp at h) ?_
   ·have hz:=ne_both h12
    simp only [lk] at h
    split at h
    ·rename_i e; subst e; cases h; simp [St.map,St.put,St.set,lk,mapO,hz]
    ·split at h
     ·rename_i e; subst e; cases h; simp [St.map,St.put,St.set,lk,mapO,hz]
     ·cases h
   rintro res M' ⟨r0,L,rfl,rfl,hperm⟩ hh
   have hrr:w.heap.size≤r0:=by
    rcases hh r0 _ (if_pos rfl) with h | h
    ·simp at h
    ·exact h.1
   clear hh
   simp only [Behind]
   (refine ev8 ?_; simp only [go_sem])
   refine R.callM (by rfl) 60 (by rfl) rfl rfl (dstP_ok (by (simp only [go_sem]))) (.cons (.pd _) .nil) (wclose_ok r0 (runA L) (runA_nodup L) ((hA _ _ hkid hperm).okL hfl)) (fun r' m' h=>?_) (fun r' h=>?_) ?_
   ·simp only [lk] at h
    split at h
    ·rename_i e; subst e; cases h; simp [St.map,St.put,St.set,lk,after,mapO]
    ·cases h
   ·simp only [List.mem_singleton] at h; subst h; exact ⟨by simp [lk],.inl hrr⟩
   rintro res M' (⟨hc,rfl,rfl⟩ | ⟨hc,rfl,rfl⟩) hh <;> clear hh
   ·simp only [Behind]
    (refine ev8 ?_; simp only [go_sem])
    refine R.retM (vc:=True) [(r0,encM (closeA (runA L)))] rfl trivial (.inl ⟨r0,_,rfl,rfl,hEv _ _ hkid hperm hc⟩) (fun r' m' h=>?_)
    simp only [lk] at h
    split at h
    ·rename_i e; subst e; cases h; exact ⟨by simp [St.map,lk,after],.inr hrr⟩
    ·cases h
   ·simp only [Behind]
    exact fun a w E g=>boomM (.inr ⟨rfl,rfl,hEx _ _ hkid hperm hc⟩) g
  | union hkd q r hks hq hr hl1 hl2=>
   rw [hks] at hlen hmsl
   obtain ⟨⟨r1,m1⟩,⟨r2,m2⟩,rfl⟩:=two_of hlen
   have c1:Clo facts.length q.attrs.length m1:=by
    have:=hmsC 0 (by rw [hks]; simp) (by simp)
    simpa [hks] using this
   have c2:Clo facts.length r.attrs.length m2:=by
    have:=hmsC 1 (by rw [hks]; simp) (by simp)
    simpa [hks] using this
   have h12:r1≠r2:=by simpa using hnd
   have hkid:kidAdds p facts [m1,m2]=some (addsM m1++addsM m2):=by unfold kidAdds; rw [if_neg (by omega),hks]; simp [hkd]
   simp only [List.map_cons,List.map_nil] at hA hEv hEx hEn
   refine R.drawE 5 80 mixed (by kernel_rfl) ?_; simp only [go_sem]
   refine RY.callW (by rfl) (wkinds_ok) rfl rfl (.nil) (by simp [plain,PD.plain]) (by simp only [go_sem]) ?_
   (refine evY_ok 80 _ _ ?_; simp only [go_sem])
   refine ⟨_,.inl ⟨rfl,.look 139 _ _ false _ _ (key p.kind) 3 138 (.int .i64) (F 154) rfl rfl rfl mp139 true (by rw [hkd]; exact ⟨rfl,by simp [wkindsM,keyOk],by simp [wkindsM],4,by simp [wkindsM],rfl,rfl⟩)⟩,dstP_ok (by (simp only [go_sem])),?_⟩
   (refine evY_ok 80 _ _ ?_; simp only [go_sem])
   have hcon:=wunion_ok p facts r1 r2 m1 m2 h12 c1.nodup c2.nodup ((hA _ _ hkid (.refl _)).ok hat)
   refine R.callMraw (t:=30) (f:=154) (by rfl) 60 (by rfl) rfl rfl rfl (dstP_ok (by (simp only [go_sem]))) (.cons (.pd _) .nil) hcon (fun r' m' h=>?_) (fun r' h=>by simp at h) ?_
   ·have hz:=ne_both h12
    simp only [lk] at h
    split at h
    ·rename_i e; subst e; cases h; simp [St.map,St.put,St.set,lk,mapO,hz]
    ·split at h
     ·rename_i e; subst e; cases h; simp [St.map,St.put,St.set,lk,mapO,hz]
     ·cases h
   rintro res M' ⟨r0,L,rfl,rfl,hperm⟩ hh
   have hrr:w.heap.size≤r0:=by
    rcases hh r0 _ (if_pos rfl) with h | h
    ·simp at h
    ·exact h.1
   clear hh
   simp only [Behind]
   (refine ev8 ?_; simp only [go_sem])
   refine R.callM (by rfl) 60 (by rfl) rfl rfl (dstP_ok (by (simp only [go_sem]))) (.cons (.pd _) .nil) (wclose_ok r0 (runA L) (runA_nodup L) ((hA _ _ hkid hperm).okL hfl)) (fun r' m' h=>?_) (fun r' h=>?_) ?_
   ·simp only [lk] at h
    split at h
    ·rename_i e; subst e; cases h; simp [St.map,St.put,St.set,lk,after,mapO]
    ·cases h
   ·simp only [List.mem_singleton] at h; subst h; exact ⟨by simp [lk],.inl hrr⟩
   rintro res M' (⟨hc,rfl,rfl⟩ | ⟨hc,rfl,rfl⟩) hh <;> clear hh
   ·simp only [Behind]
    (refine ev8 ?_; simp only [go_sem])
    refine R.retM (vc:=True) [(r0,encM (closeA (runA L)))] rfl trivial (.inl ⟨r0,_,rfl,rfl,hEv _ _ hkid hperm hc⟩) (fun r' m' h=>?_)
    simp only [lk] at h
    split at h
    ·rename_i e; subst e; cases h; exact ⟨by simp [St.map,lk,after],.inr hrr⟩
    ·cases h
   ·simp only [Behind]
    exact fun a w E g=>boomM (.inr ⟨rfl,rfl,hEx _ _ hkid hperm hc⟩) g
  | minus hkd q r hks hq hr hl1 hl2=>
   rw [hks] at hlen hmsl
   obtain ⟨⟨r1,m1⟩,⟨r2,m2⟩,rfl⟩:=two_of hlen
   have c1:Clo facts.length q.attrs.length m1:=by
    have:=hmsC 0 (by rw [hks]; simp) (by simp)
    simpa [hks] using this
   have c2:Clo facts.length r.attrs.length m2:=by
    have:=hmsC 1 (by rw [hks]; simp) (by simp)
    simpa [hks] using this
   have h12:r1≠r2:=by simpa using hnd
   simp only [List.map_cons,List.map_nil] at hA hEv hEx hEn
   refine R.drawE 5 80 mixed (by kernel_rfl) ?_; simp only [go_sem]
   refine RY.callW (by rfl) (wkinds_ok) rfl rfl (.nil) (by simp [plain,PD.plain]) (by simp only [go_sem]) ?_
   (refine evY_ok 80 _ _ ?_; simp only [go_sem])
   refine ⟨_,.inl ⟨rfl,.look 139 _ _ false _ _ (key p.kind) 3 138 (.int .i64) (F 155) rfl rfl rfl mp139 true (by rw [hkd]; exact ⟨rfl,by simp [wkindsM,keyOk],by simp [wkindsM],5,by simp [wkindsM],rfl,rfl⟩)⟩,dstP_ok (by (simp only [go_sem])),?_⟩
   (refine evY_ok 80 _ _ ?_; simp only [go_sem])
   have hcon:=wminus_ok p facts r1 r2 m1 m2 h12 c1.nodup c2.nodup (c1.lens hfl) (c2.lens hfl) ((minus_adds c1 c2).ok (by rw [← hl1]; exact hat))
   refine R.callMraw (t:=30) (f:=155) (by rfl) 60 (by rfl) rfl rfl rfl (dstP_ok (by (simp only [go_sem]))) (.cons (.pd _) .nil) hcon (fun r' m' h=>?_) (fun r' h=>by simp at h) ?_
   ·have hz:=ne_both h12
    simp only [lk] at h
    split at h
    ·rename_i e; subst e; cases h; simp [St.map,St.put,St.set,lk,mapO,hz]
    ·split at h
     ·rename_i e; subst e; cases h; simp [St.map,St.put,St.set,lk,mapO,hz]
     ·cases h
   rintro res M' hQ hh
   split at hQ
   case isFalse hno=>
    obtain ⟨rfl,rfl⟩:=hQ
    simp only [Behind]
    refine fun a w E g=>boomM (.inr ⟨rfl,rfl,hEn ?_⟩) g
    unfold kidAdds
    rw [if_neg (by omega),hks]
    simp only
    rw [if_neg (by omega),if_neg (by omega),if_neg (fun h=>hno (by simpa using h))]
   case isTrue hyes=>
   have hkid:kidAdds p facts [m1,m2]=some (m1.flatMap (minusG m2)):=by
    unfold kidAdds
    rw [if_neg (by omega),hks]
    simp only
    rw [if_neg (by omega),if_neg (by omega),if_pos (by simpa using hyes)]
   obtain ⟨r0,L,rfl,rfl,hperm⟩:=hQ
   have hrr:w.heap.size≤r0:=by
    rcases hh r0 _ (if_pos rfl) with h | h
    ·simp at h
    ·exact h.1
   clear hh
   simp only [Behind]
   (refine ev8 ?_; simp only [go_sem])
   refine R.callM (by rfl) 60 (by rfl) rfl rfl (dstP_ok (by (simp only [go_sem]))) (.cons (.pd _) .nil) (wclose_ok r0 (runA L) (runA_nodup L) ((hA _ _ hkid hperm).okL hfl)) (fun r' m' h=>?_) (fun r' h=>?_) ?_
   ·simp only [lk] at h
    split at h
    ·rename_i e; subst e; cases h; simp [St.map,St.put,St.set,lk,after,mapO]
    ·cases h
   ·simp only [List.mem_singleton] at h; subst h; exact ⟨by simp [lk],.inl hrr⟩
   rintro res M' (⟨hc,rfl,rfl⟩ | ⟨hc,rfl,rfl⟩) hh <;> clear hh
   ·simp only [Behind]
    (refine ev8 ?_; simp only [go_sem])
    refine R.retM (vc:=True) [(r0,encM (closeA (runA L)))] rfl trivial (.inl ⟨r0,_,rfl,rfl,hEv _ _ hkid hperm hc⟩) (fun r' m' h=>?_)
    simp only [lk] at h
    split at h
    ·rename_i e; subst e; cases h; exact ⟨by simp [St.map,lk,after],.inr hrr⟩
    ·cases h
   ·simp only [Behind]
    exact fun a w E g=>boomM (.inr ⟨rfl,rfl,hEx _ _ hkid hperm hc⟩) g
  | ren hkd q hks hq hl=>
   rw [hks] at hlen hmsl
   obtain ⟨⟨r1,m1⟩,rfl⟩:=List.length_eq_one_iff.1 hlen
   have c1:Clo facts.length q.attrs.length m1:=by
    have:=hmsC 0 (by rw [hks]; simp) (by simp)
    simpa [hks] using this
   have hkid:kidAdds p facts [m1]=some (addsM m1):=by unfold kidAdds; rw [if_neg (by omega),hks]; simp [hkd]
   simp only [List.map_cons,List.map_nil] at hA hEv hEx hEn
   have hperm:(addsM m1).Perm (addsM m1):=.refl _
   have hself:=runA_self c1
   have hrr:w.heap.size≤r1:=hge (r1,m1) (by simp)
   refine R.drawE 5 80 mixed (by kernel_rfl) ?_; simp only [go_sem]
   refine RY.callW (by rfl) (wkinds_ok) rfl rfl (.nil) (by simp [plain,PD.plain]) (by simp only [go_sem]) ?_
   (refine evY_ok 80 _ _ ?_; simp only [go_sem])
   refine ⟨_,.inl ⟨rfl,.look 139 _ _ false _ _ (key p.kind) 3 138 (.int .i64) (F 156) rfl rfl rfl mp139 true (by rw [hkd]; exact ⟨rfl,by simp [wkindsM,keyOk],by simp [wkindsM],6,by simp [wkindsM],rfl,rfl⟩)⟩,dstP_ok (by (simp only [go_sem])),?_⟩
   (refine evY_ok 80 _ _ ?_; simp only [go_sem])
   have hcon:=(wrename_ok p facts r1 []).toM
   refine R.callMraw (t:=30) (f:=156) (by rfl) 60 (by rfl) rfl rfl rfl (dstP_ok (by (simp only [go_sem]))) (.cons (.pd _) .nil) hcon (fun r' m' h=>?_) (fun r' h=>by simp at h) ?_
   ·simp [lk] at h
   rintro res M' ⟨rfl,rfl⟩ hh; clear hh
   simp only [Behind]
   (refine ev8 ?_; simp only [go_sem])
   refine R.callM (by rfl) 60 (by rfl) rfl rfl (dstP_ok (by (simp only [go_sem]))) (.cons (.pd _) .nil) (wclose_ok r1 (runA (addsM m1)) (runA_nodup (addsM m1)) ((hA _ _ hkid hperm).okL hfl)) (fun r' m' h=>?_) (fun r' h=>?_) ?_
   ·simp only [lk] at h
    split at h
    ·rename_i e; subst e; rw [hself] at h; cases h; simp [St.map,St.put,St.set,lk,after,mapO]
    ·cases h
   ·simp only [List.mem_singleton] at h; subst h; exact ⟨by simp [lk],.inl hrr⟩
   rintro res M' (⟨hc,rfl,rfl⟩ | ⟨hc,rfl,rfl⟩) hh <;> clear hh
   ·simp only [Behind]
    (refine ev8 ?_; simp only [go_sem])
    refine R.retM (vc:=True) [(r1,encM (closeA (runA (addsM m1))))] rfl trivial (.inl ⟨r1,_,rfl,rfl,hEv _ _ hkid hperm hc⟩) (fun r' m' h=>?_)
    simp only [lk] at h
    split at h
    ·rename_i e; subst e; cases h; exact ⟨by simp [St.map,lk,after],.inr hrr⟩
    ·cases h
   ·simp only [Behind]
    exact fun a w E g=>boomM (.inr ⟨rfl,rfl,hEx _ _ hkid hperm hc⟩) g
end Go.Proofs.YtjbhhddfaohdnaaGreatDoor
