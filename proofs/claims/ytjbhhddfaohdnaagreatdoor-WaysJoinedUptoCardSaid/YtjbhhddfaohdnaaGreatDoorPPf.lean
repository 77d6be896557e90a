/- A part of the proof: K9, Pe, Pf. -/
import Derived.Test.YtjbhhddfaohdnaaGreatDoorPK6
import Derived.Scope
import Derived.Test.YtjbhhddfaohdnaaGreatDoorPK5
set_option linter.all false
set_option linter.deprecated false
section
namespace Go.Proofs.YtjbhhddfaohdnaaGreatDoor
open Go Go.Abs Go.Proofs
set_option maxRecDepth 10000
set_option maxHeartbeats 4000000
theorem ent153:Ent Tryz.prog 153:=fun _ _=>by kernel_rfl
theorem ent75:Ent Tryz.prog 75:=fun _ _=>by kernel_rfl
theorem _root_.Go.Abs.fin_goto {C:Cx} {n:Nat} {a:Act} {w:World}:∀ {k:List KI},fin C k (.goto n) a w→C.post (.goto n) a w
 | [],h=>h
 | .code _::k,h=>fin_goto (k:=k) h
 | .ops _ _::k,h=>fin_goto (k:=k) h
 | .inBlock _::k,h=>fin_goto (k:=k) h
 | .loopEnd _::k,h=>fin_goto (k:=k) h
theorem _root_.Go.Abs.R.scope {C:Cx} {k:List KI} {s:St} {c:Code} (hp:∀ n a w,¬ C.post (.goto n) a w) (h:R C (.code c::k) s):R C (.code (.scope c)::k) s:=by
 intro a w E g
 refine wp_scope_straight (wp_mono (h a w E g) ?_)
 intro e a w hq
 cases e with
 | goto n=>exact hp n a w (fin_goto hq)
 | normal=>exact hq
 | exit _=>exact hq
 | ret=>exact hq
 | panic _=>exact hq
 | outgrown=>exact hq
theorem _root_.Go.Abs.R.label {C:Cx} {k:List KI} {s:St} {n:Nat} (h:R C k s):R C (.code (.label n)::k) s:=fun a w E g=>wp_label (h a w E g)
theorem cloneV_ok (l:List V) (hl:l.length≤1000000000):FnM Tryz.prog 75 [.pd (vals l)] [] [] (fun res M'=>res = .own ⟨76,3,l.map val⟩∧M'=[]):=by
 refine FnM.mk Tryz.func75 rfl ent75 (by simp [Tryz.ntmps75]) fun w G=>?_
 (refine ev8 ?_; simp only [go_sem])
 refine fun b hb=>⟨fun h=>?_,fun h=>?_⟩
 ·(refine ev8 ?_; simp only [go_sem])
  refine R.mkOwn 2 2 76 3 (by (simp only [go_sem])) rfl rfl ?_
  (simp only [go_sem])
  refine R.retOwn rfl rfl rfl ⟨?_,rfl⟩
  rw [hb h]
 ·(refine ev_ok 3 _ _ ?_; simp only [go_sem])
  refine R.empty 5 rfl rfl rfl rfl (by (simp only [go_sem])) sl37 (by rw [cmP,sz76]; decide) (by rw [cmP,ze76]; rfl) ?_
  (refine ev8 ?_; simp only [go_sem])
  refine R.append rfl rfl (dstP_ok (by (simp only [go_sem]))) rfl rfl rfl (es:=l.map val) rfl sl37 rfl sz76 (by decide) (congrArg (Option.map List.length) ze76) rfl (fun i hi=>?_) ?_ ?_ ?_
  ·simp only [List.length_map] at hi
   simp only [getD_map,hi]; rfl
  ·rw [cmP,by76]; simp; omega
  ·simp [maxLen]; omega
  (refine ev8 ?_; simp only [go_sem])
  exact R.retOwn rfl rfl rfl ⟨rfl,rfl⟩
abbrev leftL (la:List Attr):List (Attr × Nat):=la.zipIdx
abbrev encL (l:List (Attr × Nat)):AMap:=l.map fun p=>(.string p.1.name,I p.2)
def findA (la:List Attr) (n:ByteArray):Option Nat:=la.findIdx? fun a=>decide (a.name=n)
def joinK (la:List Attr) (x:List V):List (Attr × V)→List V→Option (List V)
 | [],out=>some out
 | (a,v)::l,out=>match findA la a.name with
  | some k=>if testV (x.getD k V.zero) 1 v 0 then joinK la x l out else none
  | none=>joinK la x l (out++[v])
def joinR (la lb:List Attr) (x y:List V):Option (List V):=joinK la x (lb.zip y) x
theorem joinK_app (la:List Attr) (x:List V) (m:List (Attr × V)):∀ (l:List (Attr × V)) (out:List V),joinK la x (l++m) out=(joinK la x l out).bind (joinK la x m)
 | [],out=>rfl
 | (a,v)::l,out=>by
  simp only [List.cons_append,joinK]
  split
  ·split
   ·exact joinK_app la x m l out
   ·rfl
  ·exact joinK_app la x m l _
theorem joinK_len (la:List Attr) (x:List V):∀ (l:List (Attr × V)) (out out':List V),joinK la x l out=some out'→out'.length≤out.length+l.length
 | [],out,out',h=>by simp only [joinK,Option.some.injEq] at h; subst h; simp
 | (a,v)::l,out,out',h=>by
  simp only [joinK] at h
  split at h
  ·split at h
   ·have:=joinK_len la x l out out' h; simp; omega
   ·cases h
  ·have:=joinK_len la x l _ out' h; simp at this ⊢; omega
def joinG (la lb:List Attr) (q1 q2:ByteArray × Ans):AddL:=match joinR la lb q1.2.row q2.2.row with
 | some row=>[(row,minW (bothL q1.2.ways q2.2.ways))]
 | none=>[]
theorem lookL (la:List Attr) (hn:(la.map (·.name)).Nodup) (n:ByteArray):(∃ k,findA la n=some k∧k<la.length∧lookD Tryz.prog 3 .string (.string n) ((encL (leftL la)).map (·.1)) ((encL (leftL la)).map (·.2)) true (I k))∨(findA la n=none∧lookD Tryz.prog 3 .string (.string n) ((encL (leftL la)).map (·.1)) ((encL (leftL la)).map (·.2)) false (I 0)):=by
 have hkk:∀ k∈(encL (leftL la)).map (·.1),keyOk .string k=true:=by
  intro k hk
  simp only [List.map_map,List.mem_map] at hk
  obtain ⟨p,_,rfl⟩:=hk
  rfl
 have hks:(encL (leftL la)).map (·.1)=la.map fun a=>Value.string a.name:=by
  apply List.ext_getElem
  ·simp
  ·intro i h1 h2; simp
 have hds:(encL (leftL la)).map (·.2)=(List.range la.length).map fun i=>I (i:Nat):=by
  apply List.ext_getElem
  ·simp
  ·intro i h1 h2; simp
 cases h:findA la n with
 | some k=>
  unfold findA at h
  rw [List.findIdx?_eq_some_iff_getElem] at h
  obtain ⟨hk,hk2,_⟩:=h
  refine .inl ⟨k,rfl,hk,rfl,hkk,?_,k,by rw [hks]; simpa using hk,?_,?_⟩
  ·rw [hks]
   simp only [List.Nodup,List.pairwise_map] at hn ⊢
   exact hn.imp fun h e=>h (by simpa using e)
  ·rw [hks]; simp at hk2; simp [hk,hk2]
  ·rw [hds]; simp [hk]
 | none=>
  unfold findA at h
  rw [List.findIdx?_eq_none_iff] at h
  refine .inr ⟨rfl,rfl,fun k hk=>⟨hkk k hk,fun e=>?_⟩,zd3⟩
  rw [hks] at hk
  obtain ⟨a,ha,rfl⟩:=List.mem_map.1 hk
  have:=h a ha
  simp at e this; exact this e
theorem wjoin_ok (p k0 k1:Plan) (facts:List Fct) (hk:p.kids=[k0,k1]) (r1 r2:Nat) (m1 m2:AM) (h12:r1≠r2) (n1:(m1.map (·.1)).Nodup) (n2:(m2.map (·.1)).Nodup) (s1:smallM m1) (s2:smallM m2)
  (hna:(k0.attrs.map (·.name)).Nodup) (hla:k0.attrs.length≤100000000) (hlb:k1.attrs.length≤100000000) (hr1:∀ q∈m1,q.2.row.length=k0.attrs.length) (hr2:∀ q∈m2,q.2.row.length=k1.attrs.length)
  (ho:okD (m1.flatMap fun q1=>m2.flatMap (joinG k0.attrs k1.attrs q1))):
  FnM Tryz.prog 153 [.pd (qry p facts [r1,r2])] [(r1,encM m1),(r2,encM m2)] [] (isAdds (m1.flatMap fun q1=>m2.flatMap (joinG k0.attrs k1.attrs q1))):=by
 have hz:=ne_both h12
 generalize hla2:k0.attrs=la at *
 generalize hlb2:k1.attrs=lb at *
 refine FnM.mk Tryz.func153 rfl ent153 (by simp [Tryz.ntmps153]) fun w G=>?_
 simp only [qry,hk,List.map_cons,List.map_nil]
 (refine ev8 ?_; simp only [go_sem])
 refine R.makeMap rfl rfl rfl (by (simp only [go_sem])) fun rl hl1 hr0=>?_
 have f1:=ne_both (map_ne (q:=r1) (x:=.map (encM m1)) hr0 (by simp [St.map,St.startM,lk]))
 have f2:=ne_both (map_ne (q:=r2) (x:=.map (encM m2)) hr0 (by simp [St.map,St.startM,lk,hz]))
 clear hr0
 (refine ev8 ?_; simp only [go_sem,Int.toNat_zero,plan_eq k0,hla2])
 (repeat (refine And.intro (by omega) ?_))
 have hl0:([]:AMap)=encL ((leftL la).take 0):=rfl
 refine R.famU (fun (k:Nat) s=>{ St.lp [1,2,3,6,8,10,11,12,13,14,15,22,23,34,35,36,37,38,39,40,41,42,43,44,45,46,47,48,49,50,51,52,53,54,55,56,57,58,59,60,61,62,63,64,65,66,67,68,69,70,71,72,73,74,75,76,77,78,79,80,81,82,83,84,85,86,87,88,89,90,91,92,93,94,95,96,97,98,99,100,101,102,103,104,105,107] [(24,.pd (I k))] [1,8,10,13] [] [] [] s with maps:=[(rl,.map (encL ((leftL la).take k))),(r1,.map (encM m1)),(r2,.map (encM m2))] }) (fun (k:Nat)=>k≤la.length) (fun (k:Nat)=>la.length - k) (0) (by omega) (by (simp only [go_sem,f1,f2,hz]); all_goals (and_intros <;> first | rfl | simp)) ?_
 rintro k hk'
 (refine evC8 ?_; simp only [go_sem,List.cons.injEq,SV.pd.injEq,ite_self])
 refine ⟨fun h=>?_,fun h=>?_⟩
 ·have hlt:k<la.length:=by simpa using h
  have hlz:k<(leftL la).length:=by simpa using hlt
  have hsn:encL ((leftL la).take (k+1))=encL ((leftL la).take k)++[(.string la[k].name,I k)]:=by
   rw [List.take_succ_eq_append_getElem hlz]; simp
  (refine evC8 ?_; simp only [go_sem,List.cons.injEq,SV.pd.injEq,getD_map,hlt])
  (repeat (refine And.intro (by omega) ?_))
  refine R.updNew (m:=encL ((leftL la).take k)) (.inl rfl) rfl (dstP_ok (by (simp only [go_sem]))) rfl (by simp [St.map,lk]) rfl rfl mp237 rfl (fun q hq=>?_) (.inl hl1) ?_
  ·obtain ⟨q',hq',rfl⟩:=List.mem_map.1 hq
   refine ⟨rfl,fun e=>?_⟩
   obtain ⟨j,hj,rfl⟩:=List.mem_take_iff_getElem.1 hq'
   simp only [List.getElem_zipIdx] at e
   have e:la[j].name=la[k].name:=by simpa using e
   have:=List.pairwise_iff_getElem.1 hna j k (by simp at hj ⊢; omega) (by simpa using hlt) (by omega)
   simp only [List.getElem_map] at this
   exact this e
  (refine ev8 ?_; simp only [go_sem,noIt,AObj.noIt,wrapN (k:=k) (by omega)])
  refine R.famEnd (k+1) (by omega) (by show _<_; omega) (by (simp only [go_sem,hsn,f1,f2,hz]); all_goals (and_intros <;> rfl))
 have hke:(leftL la).take k=leftL la:=List.take_of_length_le (by have h':¬ k<la.length:=(by simpa using h); simp; omega)
 rw [hke]
 (refine ev8 ?_; simp only [go_sem])
 refine R.makeMap rfl rfl rfl (by (simp only [go_sem])) fun r hr1' hr0=>?_
 have e1:=ne_both (map_ne (q:=r1) (x:=.map (encM m1)) hr0 (by simp [St.map,lk,f1]))
 have e2:=ne_both (map_ne (q:=r2) (x:=.map (encM m2)) hr0 (by simp [St.map,lk,f2,hz]))
 have e3:=ne_both (map_ne (q:=rl) (x:=.map (encL (leftL la))) hr0 (by simp [St.map,lk]))
 clear hr0
 (refine ev8 ?_; simp only [go_sem,Int.toNat_zero])
 (repeat (refine And.intro (by omega) ?_))
 refine R.rangeA m1 rfl rfl rfl (by (simp only [go_sem])) rfl (by simp [St.map,lk,e1,f1]) (by show (mpT Tryz.prog 95).isSome=true; rw [mp95]; rfl) fun b hb1 hb2=>?_
 have e4:=ne_both (map_ne (q:=r) (x:=.map []) hb2 (by simp [St.map,lk]))
 have e5:=ne_both (map_ne (q:=r1) (x:=.map (encM m1)) hb2 (by simp [St.map,lk,e1,f1]))
 have e6:=ne_both (map_ne (q:=r2) (x:=.map (encM m2)) hb2 (by simp [St.map,lk,e2,f2,hz]))
 have e7:=ne_both (map_ne (q:=rl) (x:=.map (encL (leftL la))) hb2 (by simp [St.map,lk,e3]))
 clear hb1 hb2
 (refine ev8 ?_; simp only [go_sem])
 refine R.famU (fun (y:AM × AM × AddL × Option Value) s=>{ St.lp [1,2,3,6,39,107] [] [1,5] [] [] [] s with maps:=[(b,.it r1 (y.2.1.map keyS) y.2.2.2),(r,.map (encM (runA y.2.2.1))),(rl,.map (encL (leftL la))),(r1,.map (encM m1)),(r2,.map (encM m2))] }) (fun (y:AM × AM × AddL × Option Value)=>(y.1++y.2.1).Perm m1∧y.2.2.1.Perm ([]++y.1.flatMap fun q1=>m2.flatMap (joinG la lb q1))) (fun (y:AM × AM × AddL × Option Value)=>y.2.1.length) (([],m1,[],none)) (⟨.refl _,by simp⟩) (by (simp only [go_sem,encA_nil,e1,e2,e3,f1,f2,hz,e4,e5,e6,e7]); all_goals (and_intros <;> first | rfl | simp)) ?_
 rintro ⟨done,left,L',cur⟩ ⟨hp,hL'⟩
 simp only at hp hL'
 (refine ev8 ?_; simp only [go_sem])
 refine R.nextA (m:=m1) (r:=r1) (cur:=cur) (left:=left) (done:=done) n1 hp rfl rfl (dstP_ok (by (simp only [go_sem]))) rfl (by simp [St.map,lk]) (by simp [St.map,lk,e1,e2,e3,f1,f2,hz,e4,e5,e6,e7]) (fun hz0=>?_) (fun l1 q l2 hz0 hpm hp2=>?_)
 ·subst hz0
  have hL2:L'.Perm (m1.flatMap fun q1=>m2.flatMap (joinG la lb q1)):=by refine hL'.trans ?_; exact List.Perm.flatMap_right _ (by simpa using hp)
  (refine evL8 ?_; simp only [go_sem,↓reduceIte,ite_self])
  refine R.retM (vc:=True) [(r,encM (runA L'))] rfl trivial ⟨r,L',rfl,rfl,hL2⟩ (fun r' m' h=>?_)
  simp only [lk] at h
  split at h
  ·rename_i e; subst e; cases h; exact ⟨by simp [St.map,lk,e1,e2,e3,f1,f2,hz,e4,e5,e6,e7],.inr hr1'⟩
  ·cases h
 ·(refine evL8 ?_; simp only [go_sem,↓reduceIte,ite_self])
  refine R.entryA (p:=q) (left:=(l1++l2).map keyS) (r:=r1) n1 hpm rfl rfl (dstP_ok (by (simp only [go_sem]))) rfl (by simp [St.map,lk]) (by simp [St.map,lk,up,e1,e2,e3,f1,f2,hz,e4,e5,e6,e7]) ?_
  have hstep:=adds_step (g:=fun q1=>m2.flatMap (joinG la lb q1)) hL' q
  have hpre:=okD_step (A:=[]) (g:=fun q1=>m2.flatMap (joinG la lb q1)) ho hp2 hL'
  have hq1:=s1 q hpm
  have hx:=hr1 q hpm
  (refine ev8 ?_; simp only [go_sem])
  refine R.scope (fun _ _ _ h=>h) ?_
  (refine ev8 ?_; simp only [go_sem])
  refine R.label ?_
  (refine ev8 ?_; simp only [go_sem,Int.toNat_one,Int.toNat_zero])
  (repeat (refine And.intro (by omega) ?_))
  refine R.rangeA m2 rfl rfl rfl (by (simp only [go_sem])) rfl (by simp [St.map,lk,up,e1,e2,e3,f1,f2,hz,e4,e5,e6,e7]) (by show (mpT Tryz.prog 95).isSome=true; rw [mp95]; rfl) fun b2 hb1 hb2=>?_
  have g0:=ne_both (map_ne (q:=b) (x:=.it r1 ((l1++l2).map keyS) (some (keyS q))) hb2 (by simp [St.map,lk,up]))
  have g4:=ne_both (map_ne (q:=r) (x:=.map (encM (runA L'))) hb2 (by simp [St.map,lk,up,e1,e2,e3,f1,f2,hz,e4,e5,e6,e7]))
  have g5:=ne_both (map_ne (q:=r1) (x:=.map (encM m1)) hb2 (by simp [St.map,lk,up,e1,e2,e3,f1,f2,hz,e4,e5,e6,e7]))
  have g6:=ne_both (map_ne (q:=r2) (x:=.map (encM m2)) hb2 (by simp [St.map,lk,up,e1,e2,e3,f1,f2,hz,e4,e5,e6,e7]))
  have g7:=ne_both (map_ne (q:=rl) (x:=.map (encL (leftL la))) hb2 (by simp [St.map,lk,up,e1,e2,e3,f1,f2,hz,e4,e5,e6,e7]))
  clear hb1 hb2
  (refine ev8 ?_; simp only [go_sem])
  refine R.famU (fun (z:AM × AM × AddL × Option Value) s=>{ St.lp [1,2,3,6,8,39,48,107] [] [1,5,8] [] [] [] s with maps:=[(b2,.it r2 (z.2.1.map keyS) z.2.2.2),(b,.it r1 ((l1++l2).map keyS) (some (keyS q))),(r,.map (encM (runA z.2.2.1))),(rl,.map (encL (leftL la))),(r1,.map (encM m1)),(r2,.map (encM m2))] }) (fun (z:AM × AM × AddL × Option Value)=>(z.1++z.2.1).Perm m2∧z.2.2.1.Perm (L' ++ z.1.flatMap (joinG la lb q))) (fun (z:AM × AM × AddL × Option Value)=>z.2.1.length) (([],m2,L',none)) (⟨.refl _,by simp⟩) (by (simp only [go_sem,e1,e2,e3,f1,f2,hz,e4,e5,e6,e7,g0,g4,g5,g6,g7]); all_goals (and_intros <;> first | rfl | simp)) ?_
  rintro ⟨done2,left2,L2,cur2⟩ ⟨hp3,hL3⟩
  simp only at hp3 hL3
  (refine ev8 ?_; simp only [go_sem])
  refine R.nextA (m:=m2) (r:=r2) (cur:=cur2) (left:=left2) (done:=done2) n2 hp3 rfl rfl (dstP_ok (by (simp only [go_sem]))) rfl (by simp [St.map,lk]) (by simp [St.map,lk,e1,e2,e3,f1,f2,hz,e4,e5,e6,e7,g0,g4,g5,g6,g7]) (fun hz1=>?_) (fun l3 q' l4 hz1 hpm2 hp4=>?_)
  ·subst hz1
   have hL4:L2.Perm (L' ++ m2.flatMap (joinG la lb q)):=hL3.trans (List.Perm.append_left _ (List.Perm.flatMap_right _ (by simpa using hp3)))
   have hL5:L2.Perm ([]++(done++[q]).flatMap fun q1=>m2.flatMap (joinG la lb q1)):=hL4.trans hstep
   (refine evL8 ?_; simp only [go_sem,↓reduceIte,ite_self])
   refine R.famEnd (done++[q],l1++l2,L2,some (keyS q)) ⟨hp2,hL5⟩ (by (subst hz0; show _<_; simp <;> omega)) (by (simp only [go_sem,e1,e2,e3,f1,f2,hz,e4,e5,e6,e7,g0,g4,g5,g6,g7]); all_goals (and_intros <;> rfl))
  ·(refine evL8 ?_; simp only [go_sem,↓reduceIte,ite_self])
   refine R.entryA (p:=q') (left:=(l3++l4).map keyS) (r:=r2) n2 hpm2 rfl rfl (dstP_ok (by (simp only [go_sem]))) rfl (by simp [St.map,lk]) (by simp [St.map,lk,up,e1,e2,e3,f1,f2,hz,e4,e5,e6,e7,g0,g4,g5,g6,g7]) ?_
   have hstep2:=adds_step (g:=joinG la lb q) hL3 q'
   have hpre2:=okD_step (A:=L') (g:=joinG la lb q) hpre hp4 hL3
   have hq2:=s2 q' hpm2
   have hy:=hr2 q' hpm2
   (refine ev8 ?_; simp only [go_sem])
   refine R.callM (by rfl) 11 (by rfl) rfl rfl (dstP_ok (by (simp only [go_sem]))) (.cons (.pd _) .nil) (cloneV_ok q.2.row (by rw [hx]; omega)) (fun r' m' h=>by simp [lk] at h) (fun r' h=>by simp at h) ?_
   rintro res M' ⟨rfl,rfl⟩ hh; clear hh
   simp only [Behind]
   (refine ev8 ?_; simp only [go_sem,List.filter_cons,e1,e2,e3,f1,f2,hz,e4,e5,e6,e7,g0,g4,g5,g6,g7,Int.toNat_one,plan_eq k1,hlb2])
   (repeat (refine And.intro (by omega) ?_))
   refine R.famU (fun (z:Nat × List V) s=>St.lp [1,2,3,6,8,10,39,48,61,62,98,99,100,101,102,103,104,105,107] [(63,.pd (I z.1)),(11,.own 11)] [1,5,8,10] [] [] [(11,⟨76,3,z.2.map val⟩)] s) (fun (z:Nat × List V)=>z.1≤lb.length∧joinK la q.2.row ((lb.zip q'.2.row).take z.1) q.2.row=some z.2) (fun (z:Nat × List V)=>lb.length - z.1) ((0,q.2.row)) (⟨by show 0≤_; omega,by simp [joinK]⟩) (by (simp only [go_sem,e1,e2,e3,f1,f2,hz,e4,e5,e6,e7,g0,g4,g5,g6,g7]); all_goals (and_intros <;> rfl)) ?_
   rintro ⟨i,out⟩ ⟨hi,hout⟩
   simp only at hi hout
   have hol:=joinK_len _ _ _ _ _ hout
   rw [List.length_take,hx] at hol
   (refine evC8 ?_; simp only [go_sem,List.cons.injEq,SV.pd.injEq,ite_self])
   refine ⟨fun h=>?_,fun h=>?_⟩
   ·have hlt:i<lb.length:=by simpa using h
    have hlty:i<q'.2.row.length:=by rw [hy]; exact hlt
    have hlz:i<(lb.zip q'.2.row).length:=by simp; omega
    have hsn:joinK la q.2.row ((lb.zip q'.2.row).take (i+1)) q.2.row=joinK la q.2.row [(lb[i],q'.2.row[i])] out:=by
     rw [List.take_succ_eq_append_getElem hlz,joinK_app,hout]; simp
    have hdr:joinR la lb q.2.row q'.2.row=(joinK la q.2.row [(lb[i],q'.2.row[i])] out).bind (joinK la q.2.row ((lb.zip q'.2.row).drop (i+1))):=by
     unfold joinR
     conv=>lhs; rw [← List.take_append_drop (i+1) (lb.zip q'.2.row),joinK_app,hsn]
    (refine evC8 ?_; simp only [go_sem,List.cons.injEq,SV.pd.injEq,getD_map,hlt])
    (repeat (refine And.intro (by omega) ?_))
    rcases lookL la hna lb[i].name with ⟨k,hk1,hk2,hlook⟩ | ⟨hk1,hlook⟩
    ·refine R.lookM (m:=encL (leftL la)) rfl rfl (dstP_ok (by (simp only [go_sem]))) rfl (by simp [St.map,lk,e1,e2,e3,f1,f2,hz,e4,e5,e6,e7,g0,g4,g5,g6,g7]) rfl mp237 hlook ?_
     have hkx:k<q.2.row.length:=by rw [hx]; exact hk2
     (refine evL8 ?_; simp only [go_sem,↓reduceIte,ite_self])
     refine R.drawE 10 80 mixed (by kernel_rfl) ?_; simp only [go_sem,getD_map,hkx,hlty]
     (repeat (refine And.intro (by omega) ?_))
     refine R.callC (test_ok q.2.row[k] 1 q'.2.row[i] 0) rfl rfl (.cons (.pd _) (.cons (.pd _) (.cons (.pd _) (.cons (.pd _) (.nil))))) (by simp [plain,PD.plain]) (by simp only [go_sem]) ?_
     (refine ev8 ?_; simp only [go_sem])
     refine ⟨fun h2=>?_,fun h2=>?_⟩
     ·have hno:testV q.2.row[k] 1 q'.2.row[i] 0=false:=by simpa using h2
      have hnone:joinR la lb q.2.row q'.2.row=none:=by
       rw [hdr]; simp [joinK,hk1,hkx,hno]
      have hg:joinG la lb q q'=[]:=by simp [joinG,hnone]
      rw [hg,List.append_nil] at hstep2
      (refine ev8 ?_; simp only [go_sem])
      refine R.famEnd (done2++[q'],l3++l4,L2,some (keyS q')) ⟨hp4,hstep2⟩ (by (subst hz1; show _<_; simp <;> omega)) (by (simp only [go_sem,e1,e2,e3,f1,f2,hz,e4,e5,e6,e7,g0,g4,g5,g6,g7]); all_goals (and_intros <;> rfl))
     ·have hyes:testV q.2.row[k] 1 q'.2.row[i] 0=true:=by simpa using h2
      have hsn2:joinK la q.2.row ((lb.zip q'.2.row).take (i+1)) q.2.row=some out:=by
       rw [hsn]; simp [joinK,hk1,hkx,hyes]
      (refine ev8 ?_; simp only [go_sem,wrapN (k:=i) (by omega)])
      refine R.famEnd (i+1,out) ⟨by show i+1≤_; omega,hsn2⟩ (by show _<_; simp; omega) (by (simp only [go_sem,e1,e2,e3,f1,f2,hz,e4,e5,e6,e7,g0,g4,g5,g6,g7]); all_goals (and_intros <;> rfl))
    ·refine R.lookM (m:=encL (leftL la)) rfl rfl (dstP_ok (by (simp only [go_sem]))) rfl (by simp [St.map,lk,e1,e2,e3,f1,f2,hz,e4,e5,e6,e7,g0,g4,g5,g6,g7]) rfl mp237 hlook ?_
     have hsn2:joinK la q.2.row ((lb.zip q'.2.row).take (i+1)) q.2.row=some (out++[q'.2.row[i]]):=by
      rw [hsn]; simp [joinK,hk1]
     (refine evL8 ?_; simp only [go_sem,↓reduceIte,getD_map,hlty])
     (repeat (refine And.intro (by omega) ?_))
     refine R.append1 1000000000 32 rfl rfl (by (simp only [go_sem])) rfl rfl rfl rfl sl37 rfl sz76 (by simp) (congrArg (Option.map List.length) ze76) rfl by76 (by simp; omega) (by decide) (by decide) ?_
     (refine ev8 ?_; simp only [go_sem,wrapN (k:=i) (by omega)])
     refine R.famEnd (i+1,out++[q'.2.row[i]]) ⟨by show i+1≤_; omega,hsn2⟩ (by show _<_; simp; omega) (by (simp only [go_sem,e1,e2,e3,f1,f2,hz,e4,e5,e6,e7,g0,g4,g5,g6,g7,List.map_append,List.map_cons,List.map_nil]); all_goals (and_intros <;> rfl))
   ·have hge:lb.length≤i:=by have h':¬ i<lb.length:=(by simpa using h); omega
    have hjr:joinR la lb q.2.row q'.2.row=some out:=by
     rw [List.take_of_length_le (by simp; omega)] at hout; exact hout
    have hg:joinG la lb q q'=[(out,minW (bothL q.2.ways q'.2.ways))]:=by simp [joinG,hjr]
    rw [hg] at hstep2 hpre2
    have hm4:=Nat.mul_le_mul hq1.1 hq2.1
    have hb1:=both_okW q.2.ways q'.2.ways (fun w hw=>by have:=hq1.2 w hw; unfold lenW midW at *; omega) (fun w hw=>by have:=hq2.2 w hw; unfold lenW midW at *; omega) (by have:=hq1.1; omega) (by have:=hq2.1; omega) (by omega)
    have hb2:=minimal_ok (bothL q.2.ways q'.2.ways) ⟨by rw [bothL_len]; omega,fun w hw=>by have:=lenW_both hq1.2 hq2.2 w hw; unfold lenW okW at *; omega⟩
    (refine ev8 ?_; simp only [go_sem])
    refine R.frz 11 rfl rfl ?_
    (simp only [go_sem])
    refine R.callW (by rfl) (hb1) rfl rfl (.cons (.pd _) (.cons (.pd _) (.nil))) (by simp [plain,PD.plain]) (by simp only [go_sem]) ?_
    (refine ev8 ?_; simp only [go_sem])
    refine R.callW (by rfl) (hb2) rfl rfl (.cons (.pd _) (.nil)) (by simp [plain,PD.plain]) (by simp only [go_sem]) ?_
    (refine ev8 ?_; simp only [go_sem])
    refine R.callM (by rfl) 60 (by rfl) rfl rfl (dstP_ok (by (simp only [go_sem]))) (.cons (.pd _) (.cons (.pd _) (.cons (.pd _) .nil))) (addA_ok r L2 (out,minW (bothL q.2.ways q'.2.ways)) hpre2) (fun r' m' h=>?_) (fun r' h=>?_) ?_
    ·simp only [lk] at h
     split at h
     ·rename_i e; subst e; cases h; simp [St.map,St.put,St.newVar,lk,up,e1,e2,e3,f1,f2,hz,e4,e5,e6,e7,g0,g4,g5,g6,g7]
     ·cases h
    ·simp only [List.mem_singleton] at h; subst h; exact ⟨by simp [lk],.inl hr1'⟩
    rintro res M' ⟨rfl,rfl⟩ hh; clear hh
    simp only [Behind]
    (refine ev8 ?_; simp only [go_sem,List.filter_cons,e1,e2,e3,f1,f2,hz,e4,e5,e6,e7,g0,g4,g5,g6,g7])
    refine R.famEnd (done2++[q'],l3++l4,L2++[(out,minW (bothL q.2.ways q'.2.ways))],some (keyS q')) ⟨hp4,hstep2⟩ (by (subst hz1; show _<_; simp <;> omega)) (by (simp only [go_sem,e1,e2,e3,f1,f2,hz,e4,e5,e6,e7,g0,g4,g5,g6,g7]); all_goals (and_intros <;> rfl))
end Go.Proofs.YtjbhhddfaohdnaaGreatDoor
end
section
namespace Go.Proofs.YtjbhhddfaohdnaaGreatDoor
open Go Go.Abs Go.Proofs
def waysOf (n:ByteArray) (L:AddL):List W:=L.flatMap fun x=>if rowB x.1=n then x.2 else []
theorem waysOf_snoc (n:ByteArray) (L:AddL) (x:List V × List W):waysOf n (L++[x])=waysOf n L++(if rowB x.1=n then x.2 else []):=by simp [waysOf]
theorem mem_waysOf {n:ByteArray} {L:AddL} {w:W}:w∈waysOf n L↔∃ x∈L,rowB x.1=n∧w∈x.2:=by
 simp only [waysOf,List.mem_flatMap]
 constructor
 ·rintro ⟨x,hx,h⟩
  split at h
  ·rename_i e; exact ⟨x,hx,e,h⟩
  ·simp at h
 ·rintro ⟨x,hx,e,h⟩
  exact ⟨x,hx,by rw [if_pos e]; exact h⟩
theorem addL_mem {n:ByteArray} {row:List V} {l:List W}:∀ {m:AM},(m.map (·.1)).Nodup→∀ p∈addL n row l m,(p∈m∧p.1≠n)∨(p.1=n∧p.2.row=row∧((∃ q∈m,q.1=n∧p.2.ways=q.2.ways++l)∨((∀ q∈m,q.1≠n)∧p.2.ways=l)))
 | [],_,p,hp=>by simp only [addL,List.mem_singleton] at hp; subst hp; exact .inr ⟨rfl,rfl,.inr ⟨by simp,rfl⟩⟩
 | (n',a)::m,hn,p,hp=>by
  simp only [List.map_cons,List.nodup_cons] at hn
  simp only [addL] at hp
  split at hp
  ·rename_i e
   subst e
   rcases List.mem_cons.1 hp with rfl | hp
   ·exact .inr ⟨rfl,rfl,.inl ⟨(n',a),List.mem_cons_self ..,rfl,rfl⟩⟩
   ·exact .inl ⟨List.mem_cons_of_mem _ hp,fun e=>hn.1 (e ▸ List.mem_map.2 ⟨p,hp,rfl⟩)⟩
  ·rename_i e
   rcases List.mem_cons.1 hp with rfl | hp
   ·exact .inl ⟨List.mem_cons_self ..,e⟩
   ·rcases addL_mem hn.2 p hp with ⟨h1,h2⟩ | ⟨h1,h2,⟨q,hq,h3⟩ | ⟨h3,h4⟩⟩
    ·exact .inl ⟨List.mem_cons_of_mem _ h1,h2⟩
    ·exact .inr ⟨h1,h2,.inl ⟨q,List.mem_cons_of_mem _ hq,h3⟩⟩
    ·refine .inr ⟨h1,h2,.inr ⟨fun q hq=>?_,h4⟩⟩
     rcases List.mem_cons.1 hq with rfl | hq
     ·exact e
     ·exact h3 q hq
theorem runA_spec (L:AddL):(∀ p∈runA L,p.2.ways=waysOf p.1 L∧∃ x∈L,p.1=rowB x.1∧p.2.row=x.1)∧∀ n,n∈(runA L).map (·.1)↔∃ x∈L,rowB x.1=n:=by
 refine foldl_rev (P:=fun L m=>(m.map (·.1)).Nodup∧(∀ p∈m,p.2.ways=waysOf p.1 L∧∃ x∈L,p.1=rowB x.1∧p.2.row=x.1)∧∀ n,n∈m.map (·.1)↔∃ x∈L,rowB x.1=n) ⟨by simp,by simp,by simp⟩ ?_ L |>.2
 rintro L x m ⟨hn,h1,h2⟩
 have hkeys:∀ n,n∈(addL (rowB x.1) x.1 x.2 m).map (·.1)↔∃ y∈L++[x],rowB y.1=n:=by
  intro n
  rw [addL_keys,h2 n]
  constructor
  ·rintro (rfl | ⟨y,hy,e⟩)
   ·exact ⟨x,by simp,rfl⟩
   ·exact ⟨y,List.mem_append_left _ hy,e⟩
  ·rintro ⟨y,hy,e⟩
   rcases List.mem_append.1 hy with hy | hy
   ·exact .inr ⟨y,hy,e⟩
   ·rw [List.mem_singleton.1 hy] at e; exact .inl e.symm
 refine ⟨addL_nodup hn,fun p hp=>?_,hkeys⟩
 rw [waysOf_snoc]
 rcases addL_mem hn p hp with ⟨hm,hne⟩ | ⟨hpn,hrow,hw⟩
 ·obtain ⟨e1,y,hy,e2⟩:=h1 p hm
  exact ⟨by rw [e1,if_neg (fun e=>hne e.symm),List.append_nil],y,List.mem_append_left _ hy,e2⟩
 ·refine ⟨?_,x,by simp,hpn,hrow⟩
  rw [if_pos hpn.symm]
  rcases hw with ⟨q,hq,hqn,e⟩ | ⟨hno,e⟩
  ·rw [e,(h1 q hq).1,hqn,hpn]
  ·rw [e]
   have:waysOf p.1 L=[]:=by
    rw [List.eq_nil_iff_forall_not_mem]
    intro w hw
    obtain ⟨y,hy,e2,_⟩:=mem_waysOf.1 hw
    have:p.1∈m.map (·.1):=(h2 _).2 ⟨y,hy,e2⟩
    obtain ⟨q,hq,e3⟩:=List.mem_map.1 this
    exact hno q hq (e3.trans hpn)
   rw [this]; rfl
def NameInj (L:AddL):Prop:=∀ x∈L,∀ y∈L,rowB x.1=rowB y.1→x.1=y.1
theorem mem_closeA {L:AddL} (hi:NameInj L) (q:ByteArray × Ans):q∈closeA (runA L)↔∃ x∈L,q=(rowB x.1,⟨x.1,minW (waysOf (rowB x.1) L)⟩)∧(minW (waysOf (rowB x.1) L)).length≠0:=by
 obtain ⟨h1,h2⟩:=runA_spec L
 simp only [closeA,List.mem_filterMap]
 constructor
 ·rintro ⟨p,hp,hc⟩
  obtain ⟨e1,x,hx,e2,e3⟩:=h1 p hp
  unfold close1 at hc
  rw [e1,e2,e3] at hc
  split at hc
  ·cases hc
  ·rename_i hne; cases hc; exact ⟨x,hx,rfl,hne⟩
 ·rintro ⟨x,hx,rfl,hne⟩
  obtain ⟨p,hp,e⟩:=List.mem_map.1 ((h2 (rowB x.1)).2 ⟨x,hx,rfl⟩)
  obtain ⟨e1,y,hy,e2,e3⟩:=h1 p hp
  have exy:y.1=x.1:=hi y hy x hx (by rw [← e2,e])
  refine ⟨p,hp,?_⟩
  unfold close1
  rw [e1,e,e3,exy,if_neg hne]
theorem closeA_nodup {m:AM} (h:(m.map (·.1)).Nodup):((closeA m).map (·.1)).Nodup:=by
 have:=closeU_nodup (D:=m.map (·.1)) h
 rwa [closeU_all (fun p hp=>List.mem_map.2 ⟨p,hp,rfl⟩)] at this
theorem nodup_of_map {α β:Type} {f:α→β} {l:List α} (h:(l.map f).Nodup):l.Nodup:=by
 simp only [List.Nodup,List.pairwise_map] at h ⊢
 exact h.imp fun h e=>h (by rw [e])
theorem waysOf_perm {L M:AddL} (h:L.Perm M) (n:ByteArray):minW (waysOf n L)=minW (waysOf n M):=
 minW_set fun w=>by simp only [mem_waysOf]; exact ⟨fun ⟨x,hx,r⟩=>⟨x,h.mem_iff.1 hx,r⟩,fun ⟨x,hx,r⟩=>⟨x,h.mem_iff.2 hx,r⟩⟩
theorem NameInj.perm {L M:AddL} (h:L.Perm M) (hi:NameInj L):NameInj M:=fun x hx y hy=>hi x (h.mem_iff.2 hx) y (h.mem_iff.2 hy)
theorem closeA_perm {L M:AddL} (h:L.Perm M) (hi:NameInj L):(closeA (runA L)).Perm (closeA (runA M)):=by
 refine (List.perm_ext_iff_of_nodup (nodup_of_map (closeA_nodup (runA_nodup L))) (nodup_of_map (closeA_nodup (runA_nodup M)))).2 fun q=>?_
 rw [mem_closeA hi,mem_closeA (hi.perm h)]
 constructor
 ·rintro ⟨x,hx,h1,h2⟩
  rw [waysOf_perm h] at h1 h2
  exact ⟨x,h.mem_iff.1 hx,h1,h2⟩
 ·rintro ⟨x,hx,h1,h2⟩
  rw [← waysOf_perm h] at h1 h2
  exact ⟨x,h.mem_iff.2 hx,h1,h2⟩
theorem closeOk_iff (L:AddL):closeOk (runA L)↔(∀ x∈L,(minW (waysOf (rowB x.1) L)).length≤400)∧(closeA (runA L)).length≤1000:=by
 obtain ⟨h1,h2⟩:=runA_spec L
 unfold closeOk
 refine and_congr ⟨fun h x hx=>?_,fun h p hp=>?_⟩ Iff.rfl
 ·obtain ⟨p,hp,e⟩:=List.mem_map.1 ((h2 (rowB x.1)).2 ⟨x,hx,rfl⟩)
  have:=h p hp
  rw [(h1 p hp).1,e] at this; exact this
 ·obtain ⟨e1,x,hx,e2,_⟩:=h1 p hp
  rw [e1,e2]; exact h x hx
theorem closeOk_perm {L M:AddL} (h:L.Perm M) (hi:NameInj L):closeOk (runA L)↔closeOk (runA M):=by
 rw [closeOk_iff,closeOk_iff,(closeA_perm h hi).length_eq]
 refine and_congr ⟨fun h1 x hx=>?_,fun h1 x hx=>?_⟩ Iff.rfl
 ·rw [← waysOf_perm h]; exact h1 x (h.mem_iff.2 hx)
 ·rw [waysOf_perm h]; exact h1 x (h.mem_iff.1 hx)
def validR (row:List V):Prop:=∀ v∈row,validV v=true
def inW (n:Nat) (w:W):Prop:=(∀ x∈w.pos,0≤x∧x<n)∧∀ x∈w.neg,0≤x∧x<n
def sortedW (w:W):Prop:=w.pos.Pairwise (· < ·)∧w.neg.Pairwise (· < ·)
structure Clo (n c:Nat) (m:AM):Prop where
 nodup:(m.map (·.1)).Nodup
 len:m.length≤1000
 name:∀ q∈m,q.1=rowB q.2.row
 valid:∀ q∈m,validR q.2.row
 width:∀ q∈m,q.2.row.length=c
 few:∀ q∈m,q.2.ways.length≤400
 some:∀ q∈m,q.2.ways≠[]
 inN:∀ q∈m,∀ w∈q.2.ways,inW n w
 min:∀ q∈m,minW q.2.ways=q.2.ways
structure Adds (n c:Nat) (L:AddL):Prop where
 valid:∀ x∈L,validR x.1
 width:∀ x∈L,x.1.length=c
 inN:∀ x∈L,∀ w∈x.2,inW n w
 srt:∀ x∈L,∀ w∈x.2,sortedW w
 sum:sumW L≤500000000000
theorem inW_norm {n:Nat} {w:W} (h:inW n w):inW n (normW w):=⟨fun x hx=>h.1 x ((mem_setI x _).1 hx),fun x hx=>h.2 x ((mem_setI x _).1 hx)⟩
theorem inW_min {n:Nat} {l:List W} (h:∀ w∈l,inW n w):∀ w∈minW l,inW n w:=by
 intro w hw
 obtain ⟨y,hy,rfl⟩:=minW_mem hw
 exact inW_norm (h y hy)
theorem inW_join {n:Nat} {x y:W} (hx:inW n x) (hy:inW n y):inW n (joinW x y):=
 ⟨fun z hz=>(List.mem_append.1 hz).elim (hx.1 z) (hy.1 z),fun z hz=>(List.mem_append.1 hz).elim (hx.2 z) (hy.2 z)⟩
theorem inW_both {n:Nat} {a b:List W} (ha:∀ w∈a,inW n w) (hb:∀ w∈b,inW n w):∀ w∈bothL a b,inW n w:=by
 intro w hw
 simp only [bothL,List.mem_flatMap,List.mem_map] at hw
 obtain ⟨x,hx,y,hy,rfl⟩:=hw
 exact inW_join (ha x hx) (hb y hy)
theorem sorted_len {n:Nat}:∀ (l:List Int) (a:Int),l.Pairwise (· < ·)→(∀ x∈l,a≤x∧x<n)→(l.length:Int)≤(n:Int) - a∨l=[]
 | [],_,_,_=>.inr rfl
 | x::l,a,h,hx=>by
  rw [List.pairwise_cons] at h
  have h1:=hx x (List.mem_cons_self ..)
  rcases sorted_len l (x+1) h.2 (fun y hy=>⟨by have:=h.1 y hy; omega,(hx y (List.mem_cons_of_mem _ hy)).2⟩) with h2 | rfl
  ·left; simp only [List.length_cons]; omega
  ·left; simp only [List.length_cons,List.length_nil]; omega
theorem sorted_le {n:Nat} {l:List Int} (h:l.Pairwise (· < ·)) (hx:∀ x∈l,0≤x∧x<n):l.length≤n:=by
 rcases sorted_len l 0 h hx with h1 | rfl
 ·omega
 ·simp
theorem minW_sorted {l:List W} {w:W} (h:w∈minW l):w.pos.Pairwise (· < ·)∧w.neg.Pairwise (· < ·):=by
 obtain ⟨y,_,rfl⟩:=minW_mem h
 exact ⟨setI_sorted _,setI_sorted _⟩
theorem Clo.lens {n c:Nat} {m:AM} (h:Clo n c m) (hn:n≤1000000):smallM m:=by
 refine fun q hq=>⟨h.few q hq,fun w hw=>?_⟩
 have hi:=h.inN q hq w hw
 rw [← h.min q hq] at hw
 obtain ⟨h1,h2⟩:=minW_sorted hw
 have a:=sorted_le h1 hi.1; have b:=sorted_le h2 hi.2
 exact ⟨by omega,by omega⟩
theorem Clo.srt {n c:Nat} {m:AM} (h:Clo n c m):∀ q∈m,∀ w∈q.2.ways,sortedW w:=fun q hq w hw=>by
 rw [← h.min q hq] at hw; exact minW_sorted hw
theorem rowN_len (row:List V) (c:Nat) (h:∀ v∈row,(bytes (textV v)).length+1≤c):(rowN row).length≤c * row.length:=by
 induction row with
 | nil=>simp [rowN]
 | cons v l ih=>
  have h1:=h v (List.mem_cons_self ..)
  have h2:=ih fun u hu=>h u (List.mem_cons_of_mem _ hu)
  have:rowN (v::l)=bytes (textV v)++[32]++rowN l:=rfl
  rw [this]
  simp only [List.length_append,List.length_cons,List.length_nil,Nat.mul_add,Nat.mul_one]; omega
theorem replL_le (l:List UInt8):(replL l).length≤2 * l.length:=by
 induction l with
 | nil=>simp [replL]
 | cons c l ih=>
  have:replL (c::l)=replB c++replL l:=rfl
  rw [this,List.length_append,List.length_cons]
  have:(replB c).length≤2:=by unfold replB; repeat' split
                              all_goals simp
  omega
theorem textV_len {v:V} (h:validV v=true):(bytes (textV v)).length+1≤404:=by
 have hn:=valid_n h
 unfold textV
 rw [h]
 simp only [Bool.not_true,Bool.false_eq_true,if_false]
 split
 ·rename_i hk
  have ht:v.text.size≤200:=by
   unfold validV at h
   simp [hk] at h
   exact h.1
  have:=replL_le (bytes v.text)
  have hb:(bytes v.text).length=v.text.size:=Array.length_toList
  simp only [quoteB,bytes,List.length_cons,List.length_append,List.length_nil] at this hb ⊢
  omega
 ·split
  ·have:=Lib.itoa_length_le v.n (by omega) (by omega)
   simp only [bytes]; omega
  ·split
   ·have:=Lib.itoa_length_le v.n (by omega) (by omega)
    simp only [bytes,List.length_cons]; omega
   ·split
    ·have:(Lib.formatBool (v.n == 1)).length≤5:=by cases (v.n == 1) <;> decide
     simp only [bytes]; omega
    ·simp [bytes]
theorem okRow_of {row:List V} (h:validR row) (hl:row.length≤200000000):okRow row:=by
 refine ⟨by omega,?_⟩
 have:=rowN_len row 404 fun v hv=>textV_len (h v hv)
 omega
theorem Adds.ok {n c:Nat} {L:AddL} (h:Adds n c L) (hc:c≤200000000):okD L:=⟨fun x hx=>okRow_of (h.valid x hx) (by rw [h.width x hx]; exact hc),h.sum⟩
theorem Adds.perm {n c:Nat} {L M:AddL} (p:L.Perm M) (h:Adds n c L):Adds n c M:=⟨fun x hx=>h.valid x (p.mem_iff.2 hx),fun x hx=>h.width x (p.mem_iff.2 hx),fun x hx=>h.inN x (p.mem_iff.2 hx),fun x hx=>h.srt x (p.mem_iff.2 hx),by rw [← sumW_perm p]; exact h.sum⟩
theorem Adds.okL {n c:Nat} {L:AddL} (h:Adds n c L) (hn:n≤1000000):∀ p∈runA L,okL p.2.ways:=by
 intro p hp
 refine ⟨by have:=runA_ways L p hp; have:=h.sum; omega,fun w hw=>?_⟩
 rw [((runA_spec L).1 p hp).1] at hw
 obtain ⟨x,hx,_,hw⟩:=mem_waysOf.1 hw
 have h1:=h.inN x hx w hw; have h2:=h.srt x hx w hw
 have a:=sorted_le h2.1 h1.1; have b:=sorted_le h2.2 h1.2
 exact ⟨by omega,by omega⟩
theorem Adds.clo {n c:Nat} {L:AddL} (h:Adds n c L) (ho:closeOk (runA L)):Clo n c (closeA (runA L)):=by
 obtain ⟨h1,h2⟩:=runA_spec L
 have hm:∀ q∈closeA (runA L),∃ p∈runA L,∃ x∈L,q=(rowB x.1,⟨x.1,minW p.2.ways⟩)∧p.2.ways=waysOf p.1 L∧(minW p.2.ways).length≠0:=by
  intro q hq
  obtain ⟨p,hp,hc⟩:=List.mem_filterMap.1 hq
  obtain ⟨e1,x,hx,e2,e3⟩:=h1 p hp
  unfold close1 at hc
  split at hc
  ·cases hc
  ·rename_i hne; cases hc; exact ⟨p,hp,x,hx,by rw [e2,e3],e1,hne⟩
 refine ⟨closeA_nodup (runA_nodup L),ho.2,fun q hq=>?_,fun q hq=>?_,fun q hq=>?_,fun q hq=>?_,fun q hq=>?_,fun q hq=>?_,fun q hq=>?_⟩
 all_goals obtain ⟨p,hp,x,hx,rfl,e1,hne⟩:=hm q hq
 ·rfl
 ·exact h.valid x hx
 ·exact h.width x hx
 ·exact ho.1 p hp
 ·intro e
  have e:minW p.2.ways=[]:=e
  exact hne (by rw [e]; rfl)
 ·refine inW_min fun w hw=>?_
  rw [e1] at hw
  obtain ⟨y,hy,_,h3⟩:=mem_waysOf.1 hw
  exact h.inN y hy w h3
 ·exact minW_minW _
end Go.Proofs.YtjbhhddfaohdnaaGreatDoor
end
section
namespace Go.Proofs.YtjbhhddfaohdnaaGreatDoor
open Go Go.Abs Go.Proofs
def tabAdds (t:Int) (facts:List Fct):AddL:=facts.zipIdx.flatMap fun q=>if q.1.table=t then [(q.1.row,[⟨[(q.2:Int)],[]⟩])] else []
def kidAdds (p:Plan) (facts:List Fct) (ms:List AM):Option AddL:=
 if p.kind=1 then some (tabAdds p.table facts) else match p.kids,ms with
 | [_],[m]=>if p.kind=2 then some (m.flatMap (selG p)) else if p.kind=3 then some (m.flatMap (projG p)) else some (addsM m)
 | [k0,k1],[m1,m2]=>if p.kind=4 then some (m1.flatMap fun q=>m2.flatMap (joinG k0.attrs k1.attrs q)) else if p.kind=5 then some (addsM m1++addsM m2)
   else if m1.all fun q=>(minusQ m2 q).isSome then some (m1.flatMap (minusG m2)) else none
 | _,_=>none
def EvN (facts:List Fct):Nat→Plan→AM→Prop
 | 0,_,_=>False
 | n+1,p,m=>∃ ms:List AM,ms.length=p.kids.length∧(∀ i (h:i<p.kids.length) (h2:i<ms.length),EvN facts n p.kids[i] ms[i])∧∃ L0 L,kidAdds p facts ms=some L0∧L.Perm L0∧closeOk (runA L)∧m=closeA (runA L)
def EvX (facts:List Fct):Nat→Plan→Prop
 | 0,_=>False
 | n+1,p=>(∃ i,∃ h:i<p.kids.length,EvX facts n p.kids[i])∨∃ ms:List AM,ms.length=p.kids.length∧(∀ i (h:i<p.kids.length) (h2:i<ms.length),EvN facts n p.kids[i] ms[i]) ∧
   (kidAdds p facts ms=none∨∃ L0 L,kidAdds p facts ms=some L0∧L.Perm L0∧¬ closeOk (runA L))
def factsOk (tl:List Tbl) (facts:List Fct):Prop:=facts.length≤4000∧∀ f∈facts,0≤f.table∧∃ h:f.table.toNat<tl.length,fitsV (tl[f.table.toNat]).attrs f.row=true
inductive Shape (tl:List Tbl) (n:Nat) (p:Plan):Prop
 | table (hk:p.kind=1) (hks:p.kids=[]) (h0:0≤p.table) (h1:p.table.toNat<tl.length) (hl:p.attrs.length=(tl[p.table.toNat]).attrs.length)
 | sel (hk:p.kind=2) (q:Plan) (hks:p.kids=[q]) (hq:validB n tl q=true) (hs:selV p q=true) (hl:p.attrs.length=q.attrs.length)
 | proj (hk:p.kind=3) (q:Plan) (hks:p.kids=[q]) (hq:validB n tl q=true) (hc:∀ c∈p.cols,0≤c∧c.toNat<q.attrs.length) (hl:p.attrs.length=p.cols.length)
 | join (hk:p.kind=4) (q r:Plan) (hks:p.kids=[q,r]) (hq:validB n tl q=true) (hr:validB n tl r=true) (hn:(q.attrs.map (·.name)).Nodup) (hl:∃ l,joinA q.attrs q.attrs r.attrs=some l∧p.attrs.length=l.length)
 | union (hk:p.kind=5) (q r:Plan) (hks:p.kids=[q,r]) (hq:validB n tl q=true) (hr:validB n tl r=true) (hl:p.attrs.length=q.attrs.length) (hl2:p.attrs.length=r.attrs.length)
 | minus (hk:p.kind=6) (q r:Plan) (hks:p.kids=[q,r]) (hq:validB n tl q=true) (hr:validB n tl r=true) (hl:p.attrs.length=q.attrs.length) (hl2:p.attrs.length=r.attrs.length)
 | ren (hk:p.kind=7) (q:Plan) (hks:p.kids=[q]) (hq:validB n tl q=true) (hl:p.attrs.length=q.attrs.length)
theorem alikeL_len {a b:List Attr} (h:alikeL a b=true):a.length=b.length:=by
 unfold alikeL at h; simp at h; exact h.1
theorem pickV_all {α:Type} (l:List α):∀ (cs:List Int) (out:List α),pickV l cs=some out→∀ c∈cs,0≤c∧c.toNat<l.length
 | [],_,_,c,hc=>by simp at hc
 | x::cs,out,h,c,hc=>by
  simp only [pickV] at h
  split at h
  ·rename_i hx
   rcases List.mem_cons.1 hc with rfl | hc
   ·exact hx
   ·cases e:pickV l cs with
    | none=>simp [e] at h
    | some o=>exact pickV_all l cs o e c hc
  ·cases h
theorem eqS_iff (a b:ByteArray):eqS a b=true↔a=b:=by
 unfold eqS
 rw [beq_iff_eq]
 constructor
 ·intro h
  have:a.data.toList=b.data.toList:=by
   have h1:∀ c:ByteArray,c.toList=c.data.toList:=fun c=>ByteArray.toList_eq c
   rw [← h1,← h1,h]
  cases a; cases b; congr 1; exact Array.toList_inj.1 this
 ·rintro rfl; rfl
theorem namesB_nodup {l:List Attr} (h:namesB l=true):(l.map (·.name)).Nodup:=by
 unfold namesB at h
 rw [List.all_eq_true] at h
 rw [List.Nodup,List.pairwise_map,List.pairwise_iff_getElem]
 intro i j hi hj hij e
 have h1:=h (l[j],j) (by rw [List.mem_iff_getElem]; exact ⟨j,by simpa using hj,by simp⟩)
 simp only [decide_eq_true_eq] at h1
 have h2:colA l l[j].name≤(i:Int):=by
  unfold colA idxP
  cases hf:l.findIdx? (fun t=>eqS t.name l[j].name) with
  | none=>simp <;> omega
  | some k=>
   rw [List.findIdx?_eq_some_iff_getElem] at hf
   obtain ⟨hk,_,hmin⟩:=hf
   simp only
   rcases Nat.lt_or_ge i k with hlt | hge
   ·have:=hmin i hlt
    rw [(eqS_iff _ _).2 e] at this; simp at this
   ·omega
 omega
theorem two_of {α:Type}:∀ {l:List α},l.length=2→∃ q r,l=[q,r]
 | [q,r],_=>⟨q,r,rfl⟩
theorem valid_shape {tl:List Tbl} {n:Nat} {p:Plan} (h:validB (n+1) tl p=true) (h8:p.kind≠8):Shape tl n p:=by
 simp only [validB,Bool.and_eq_true,decide_eq_true_eq] at h
 obtain ⟨⟨⟨⟨hk,hks⟩,_⟩,_⟩,hw⟩:=h
 rw [List.all_eq_true] at hks
 cases hwa:wantA tl p with
 | none=>rw [hwa] at hw; cases hw
 | some l=>
  rw [hwa] at hw
  have hl:=alikeL_len hw
  unfold wantA at hwa
  unfold kidN at hk
  by_cases h1:p.kind=1
  ·simp only [h1,if_true,Option.some.injEq] at hk
   rw [if_pos h1] at hwa
   unfold tabCols at hwa
   split at hwa
   ·rename_i hc
    cases hwa
    refine .table h1 (List.length_eq_zero_iff.1 hk.symm) hc.1 hc.2 ?_
    rw [← hl]; simp [tabA]
   ·cases hwa
  rw [if_neg h1] at hwa hk
  by_cases h4:p.kind=4∨p.kind=5∨p.kind=6
  ·have hk2:p.kids.length=2:=by
    rcases h4 with h | h | h <;> simp [h] at hk <;> omega
   obtain ⟨q,r,hqr⟩:=two_of hk2
   have hq:=hks q (by rw [hqr]; simp)
   have hr:=hks r (by rw [hqr]; simp)
   rw [hqr] at hwa
   simp only at hwa
   rcases h4 with h | h | h
   ·rw [if_pos h] at hwa
    refine .join h q r hqr hq hr ?_ ⟨l,hwa,hl.symm⟩
    cases n with
    | zero=>simp [validB] at hq
    | succ n=>
     simp only [validB,Bool.and_eq_true] at hq
     exact namesB_nodup hq.1.2
   ·rw [if_neg (by omega),if_pos (.inl h)] at hwa
    unfold okOf at hwa
    split at hwa
    ·rename_i ha; cases hwa
     exact .union h q r hqr hq hr hl.symm (by rw [← hl]; exact alikeL_len ha)
    ·cases hwa
   ·rw [if_neg (by omega),if_pos (.inr h)] at hwa
    unfold okOf at hwa
    split at hwa
    ·rename_i ha; cases hwa
     exact .minus h q r hqr hq hr hl.symm (by rw [← hl]; exact alikeL_len ha)
    ·cases hwa
  by_cases h2:p.kind=2∨p.kind=3∨p.kind=7
  ·have hk2:p.kids.length=1:=by
    rcases h2 with h | h | h <;> simp [h] at hk <;> omega
   obtain ⟨q,hqr⟩:=List.length_eq_one_iff.1 hk2
   have hq:=hks q (by rw [hqr]; simp)
   rw [hqr] at hwa
   simp only at hwa
   rcases h2 with h | h | h
   ·rw [if_pos h] at hwa
    unfold okOf at hwa
    split at hwa
    ·rename_i ha; cases hwa
     exact .sel h q hqr hq ha hl.symm
    ·cases hwa
   ·rw [if_neg (by omega),if_pos h] at hwa
    exact .proj h q hqr hq (pickV_all _ _ _ hwa) (by rw [← hl]; exact pickV_len _ _ _ hwa)
   ·rw [if_neg (by omega),if_neg (by omega),if_pos h] at hwa
    unfold renCols at hwa
    split at hwa
    ·rename_i hc; cases hwa
     exact .ren h q hqr hq hc.2
    ·cases hwa
  ·exfalso
   have:¬ (p.kind=2∨p.kind=3∨p.kind=4∨p.kind=5∨p.kind=6∨p.kind=7∨p.kind=8):=by omega
   rw [if_neg (by omega),if_neg (by omega),if_neg (by omega),if_neg (by omega),if_neg (by omega),if_neg (by omega),if_neg h8] at hk
   cases hk
theorem fits_valid {l:List Attr} {row:List V} (h:fitsV l row=true):row.length=l.length∧validR row:=by
 unfold fitsV at h
 simp only [Bool.and_eq_true,decide_eq_true_eq] at h
 refine ⟨h.1,fun v hv=>?_⟩
 obtain ⟨i,hi,rfl⟩:=List.getElem_of_mem hv
 have:=(List.all_eq_true.1 h.2) (l[i]'(by omega),row[i]) (by rw [List.mem_iff_getElem]; exact ⟨i,by simp; omega,by simp⟩)
 unfold fitV at this
 simp only [Bool.and_eq_true] at this
 exact this.1
theorem sumW_le {α:Type} (c:Nat) (g:α→AddL):∀ (l:List α),(∀ x∈l,sumW (g x)≤c)→sumW (l.flatMap g)≤c * l.length
 | [],_=>by simp [sumW]
 | x::l,h=>by
  have h1:=h x (List.mem_cons_self ..)
  have h2:=sumW_le c g l fun y hy=>h y (List.mem_cons_of_mem _ hy)
  rw [List.flatMap_cons,sumW_app,List.length_cons,Nat.mul_add,Nat.mul_one]; omega
theorem sumW_one (row:List V) (l:List W):sumW [(row,l)]=l.length:=by simp [sumW]
theorem tabAdds_ok {tl:List Tbl} {facts:List Fct} (hf:factsOk tl facts) {t:Int} (h0:0≤t) (h1:t.toNat<tl.length):Adds facts.length (tl[t.toNat]).attrs.length (tabAdds t facts):=by
 have hm:∀ x∈tabAdds t facts,∃ i,∃ h:i<facts.length,facts[i].table=t∧x=(facts[i].row,[⟨[(i:Int)],[]⟩]):=by
  intro x hx
  simp only [tabAdds,List.mem_flatMap] at hx
  obtain ⟨⟨f,i⟩,hq,hx⟩:=hx
  split at hx
  ·rename_i e
   obtain ⟨hi,hfi⟩:=List.mem_zipIdx' hq
   exact ⟨i,hi,by rw [← hfi]; exact e,by rw [← hfi]; simpa using hx⟩
  ·simp at hx
 have hrow:∀ i (h:i<facts.length),facts[i].table=t→facts[i].row.length=(tl[t.toNat]).attrs.length∧validR facts[i].row:=by
  intro i h e
  obtain ⟨_,h3,h4⟩:=hf.2 facts[i] (List.getElem_mem h)
  have:=fits_valid h4
  simp only [e] at this
  exact this
 refine ⟨fun x hx=>?_,fun x hx=>?_,fun x hx w hw=>?_,fun x hx w hw=>?_,?_⟩
 ·obtain ⟨i,hi,e,rfl⟩:=hm x hx; exact (hrow i hi e).2
 ·obtain ⟨i,hi,e,rfl⟩:=hm x hx; exact (hrow i hi e).1
 ·obtain ⟨i,hi,e,rfl⟩:=hm x hx
  rw [List.mem_singleton.1 hw]
  exact ⟨fun z hz=>by rw [List.mem_singleton.1 hz]; omega,fun z hz=>by simp at hz⟩
 ·obtain ⟨i,hi,e,rfl⟩:=hm x hx
  rw [List.mem_singleton.1 hw]
  exact ⟨by simp,by simp⟩
 ·have:=sumW_le 1 (fun q:Fct × Nat=>if q.1.table=t then [(q.1.row,[(⟨[(q.2:Int)],[]⟩:W)])] else []) facts.zipIdx (fun q _=>by by_cases h:q.1.table=t <;> simp [h,sumW])
  have hl:=hf.1
  simp only [List.length_zipIdx] at this
  unfold tabAdds; omega
theorem clo_adds {n c:Nat} {m:AM} (h:Clo n c m):Adds n c (addsM m):=by
 refine ⟨fun x hx=>?_,fun x hx=>?_,fun x hx=>?_,fun x hx=>?_,?_⟩
 ·obtain ⟨q,hq,hx⟩:=List.mem_flatMap.1 hx
  rw [List.mem_singleton.1 hx]; exact h.valid q hq
 ·obtain ⟨q,hq,hx⟩:=List.mem_flatMap.1 hx
  rw [List.mem_singleton.1 hx]; exact h.width q hq
 ·obtain ⟨q,hq,hx⟩:=List.mem_flatMap.1 hx
  rw [List.mem_singleton.1 hx]; exact h.inN q hq
 ·obtain ⟨q,hq,hx⟩:=List.mem_flatMap.1 hx
  rw [List.mem_singleton.1 hx]; exact h.srt q hq
 ·have:sumW (addsM m)≤400 * m.length:=sumW_le 400 add1 m fun q hq=>by rw [sumW_one]; exact h.few q hq
  have:=h.len; omega
theorem adds_app {n c:Nat} {L M:AddL} (h1:∀ x∈L,validR x.1∧x.1.length=c∧(∀ w∈x.2,inW n w)∧∀ w∈x.2,sortedW w) (h2:∀ x∈M,validR x.1∧x.1.length=c∧(∀ w∈x.2,inW n w)∧∀ w∈x.2,sortedW w) (hs:sumW L+sumW M≤500000000000):Adds n c (L++M):=
 ⟨fun x hx=>(List.mem_append.1 hx).elim (fun h=>(h1 x h).1) (fun h=>(h2 x h).1),fun x hx=>(List.mem_append.1 hx).elim (fun h=>(h1 x h).2.1) (fun h=>(h2 x h).2.1),fun x hx=>(List.mem_append.1 hx).elim (fun h=>(h1 x h).2.2.1) (fun h=>(h2 x h).2.2.1),fun x hx=>(List.mem_append.1 hx).elim (fun h=>(h1 x h).2.2.2) (fun h=>(h2 x h).2.2.2),by rw [sumW_app]; exact hs⟩
theorem union_adds {n c:Nat} {m1 m2:AM} (h1:Clo n c m1) (h2:Clo n c m2):Adds n c (addsM m1++addsM m2):=by
 have a:=clo_adds h1; have b:=clo_adds h2
 refine adds_app (fun x hx=>⟨a.valid x hx,a.width x hx,a.inN x hx,a.srt x hx⟩) (fun x hx=>⟨b.valid x hx,b.width x hx,b.inN x hx,b.srt x hx⟩) ?_
 have s1:sumW (addsM m1)≤400 * m1.length:=sumW_le 400 add1 m1 fun q hq=>by rw [sumW_one]; exact h1.few q hq
 have s2:sumW (addsM m2)≤400 * m2.length:=sumW_le 400 add1 m2 fun q hq=>by rw [sumW_one]; exact h2.few q hq
 have:=h1.len; have:=h2.len; omega
theorem sel_adds {n c:Nat} {m:AM} (p:Plan) (h:Clo n c m):Adds n c (m.flatMap (selG p)):=by
 have hm:∀ x∈m.flatMap (selG p),∃ q∈m,x=(q.2.row,q.2.ways):=by
  intro x hx
  obtain ⟨q,hq,hx⟩:=List.mem_flatMap.1 hx
  unfold selG at hx
  split at hx
  ·simp at hx
  ·exact ⟨q,hq,List.mem_singleton.1 hx⟩
 refine ⟨fun x hx=>?_,fun x hx=>?_,fun x hx=>?_,fun x hx=>?_,?_⟩
 ·obtain ⟨q,hq,rfl⟩:=hm x hx; exact h.valid q hq
 ·obtain ⟨q,hq,rfl⟩:=hm x hx; exact h.width q hq
 ·obtain ⟨q,hq,rfl⟩:=hm x hx; exact h.inN q hq
 ·obtain ⟨q,hq,rfl⟩:=hm x hx; exact h.srt q hq
 ·have:=sumW_le 400 (selG p) m fun q hq=>by
   unfold selG
   split
   ·simp [sumW]
   ·rw [sumW_one]; exact h.few q hq
  have:=h.len; omega
theorem proj_adds {n c:Nat} {m:AM} (p:Plan) (h:Clo n c m) (hc:∀ x∈p.cols,0≤x∧x.toNat<c):Adds n p.cols.length (m.flatMap (projG p)):=by
 have hm:∀ x∈m.flatMap (projG p),∃ q∈m,x=(projR q.2.row p.cols,q.2.ways):=by
  intro x hx
  obtain ⟨q,hq,hx⟩:=List.mem_flatMap.1 hx
  exact ⟨q,hq,List.mem_singleton.1 hx⟩
 refine ⟨fun x hx=>?_,fun x hx=>?_,fun x hx=>?_,fun x hx=>?_,?_⟩
 ·obtain ⟨q,hq,rfl⟩:=hm x hx
  intro v hv
  obtain ⟨y,hy,rfl⟩:=List.mem_map.1 hv
  have h1:=(hc y hy).2
  have hw:=h.width q hq
  have:q.2.row.getD y.toNat V.zero=q.2.row[y.toNat]:=by simp [hw,h1]
  rw [this]
  exact h.valid q hq _ (List.getElem_mem (by omega))
 ·obtain ⟨q,hq,rfl⟩:=hm x hx; simp [projR]
 ·obtain ⟨q,hq,rfl⟩:=hm x hx; exact h.inN q hq
 ·obtain ⟨q,hq,rfl⟩:=hm x hx; exact h.srt q hq
 ·have:=sumW_le 400 (projG p) m fun q hq=>by rw [projG,sumW_one]; exact h.few q hq
  have:=h.len; omega
theorem minusL_few:∀ (ys l l':List W),minusL l ys=some l'→l.length≤400→l'.length≤400
 | [],l,l',h,h4=>by simp only [minusL,Option.some.injEq] at h; subst h; exact h4
 | y::ys,l,l',h,h4=>by
  simp only [minusL] at h
  split at h
  ·rename_i h1; exact minusL_few ys _ l' h h1
  ·cases h
theorem minusL_in {n:Nat}:∀ (ys l l':List W),minusL l ys=some l'→(∀ w∈l,inW n w)→(∀ w∈ys,inW n w)→∀ w∈l',inW n w
 | [],l,l',h,hl,_=>by simp only [minusL,Option.some.injEq] at h; subst h; exact hl
 | y::ys,l,l',h,hl,hy=>by
  simp only [minusL] at h
  split at h
  ·refine minusL_in ys _ l' h (inW_min (inW_both hl fun w hw=>?_)) fun w hw=>hy w (List.mem_cons_of_mem _ hw)
   have hyy:=hy y (List.mem_cons_self ..)
   simp only [notW,List.mem_append,List.mem_map] at hw
   rcases hw with ⟨v,hv,rfl⟩ | ⟨v,hv,rfl⟩
   ·exact ⟨fun z hz=>by simp [negW] at hz,fun z hz=>by simp [negW] at hz; subst hz; exact hyy.1 _ hv⟩
   ·exact ⟨fun z hz=>by simp [posW] at hz; subst hz; exact hyy.2 _ hv,fun z hz=>by simp [posW] at hz⟩
  ·cases h
theorem minusL_srt:∀ (ys l l':List W),minusL l ys=some l'→(∀ w∈l,sortedW w)→∀ w∈l',sortedW w
 | [],l,l',h,hl=>by simp only [minusL,Option.some.injEq] at h; subst h; exact hl
 | y::ys,l,l',h,hl=>by
  simp only [minusL] at h
  split at h
  ·exact minusL_srt ys _ l' h fun w hw=>minW_sorted hw
  ·cases h
theorem waysAt_in {m:AM} {x:ByteArray} {l:List W} (h:waysAt x m=some l):∃ q∈m,q.1=x∧q.2.ways=l:=by
 induction m with
 | nil=>cases h
 | cons q m ih=>
  obtain ⟨y,a⟩:=q
  simp only [waysAt] at h
  split at h
  ·rename_i e; cases h; exact ⟨(y,a),List.mem_cons_self ..,e,rfl⟩
  ·obtain ⟨q,hq,h2⟩:=ih h; exact ⟨q,List.mem_cons_of_mem _ hq,h2⟩
theorem minusQ_ok {n c d:Nat} {m1 m2:AM} (h1:Clo n c m1) (h2:Clo n d m2) {q:ByteArray × Ans} (hq:q∈m1):((minusQ m2 q).getD []).length≤400∧∀ w∈(minusQ m2 q).getD [],inW n w:=by
 cases e:minusQ m2 q with
 | none=>simp
 | some l=>
  unfold minusQ at e
  refine ⟨minusL_few _ _ _ e (h1.few q hq),minusL_in _ _ _ e (h1.inN q hq) fun w hw=>?_⟩
  cases e2:waysAt q.1 m2 with
  | none=>rw [e2] at hw; simp at hw
  | some l2=>
   rw [e2] at hw
   obtain ⟨q2,hq2,_,rfl⟩:=waysAt_in e2
   exact h2.inN q2 hq2 w hw
theorem minus_adds {n c d:Nat} {m1 m2:AM} (h1:Clo n c m1) (h2:Clo n d m2):Adds n c (m1.flatMap (minusG m2)):=by
 have hm:∀ x∈m1.flatMap (minusG m2),∃ q∈m1,x=(q.2.row,(minusQ m2 q).getD []):=by
  intro x hx
  obtain ⟨q,hq,hx⟩:=List.mem_flatMap.1 hx
  exact ⟨q,hq,List.mem_singleton.1 hx⟩
 refine ⟨fun x hx=>?_,fun x hx=>?_,fun x hx=>?_,fun x hx=>?_,?_⟩
 ·obtain ⟨q,hq,rfl⟩:=hm x hx; exact h1.valid q hq
 ·obtain ⟨q,hq,rfl⟩:=hm x hx; exact h1.width q hq
 ·obtain ⟨q,hq,rfl⟩:=hm x hx; exact (minusQ_ok h1 h2 hq).2
 ·obtain ⟨q,hq,rfl⟩:=hm x hx
  cases e:minusQ m2 q with
  | none=>simp
  | some l=>exact minusL_srt _ _ _ e (h1.srt q hq)
 ·have:=sumW_le 400 (minusG m2) m1 fun q hq=>by rw [minusG,sumW_one]; exact (minusQ_ok h1 h2 hq).1
  have:=h1.len; omega
theorem joinK_width {la:List Attr} {x:List V} (hx:x.length=la.length):∀ (bs:List Attr) (ys:List V) (out out':List V) (o l:List Attr),ys.length=bs.length→joinK la x (bs.zip ys) out=some out'→joinA la o bs=some l→out.length=o.length→out'.length=l.length
 | [],[],out,out',o,l,_,h,hj,e=>by simp [joinK] at h; simp [joinA] at hj; subst h; subst hj; exact e
 | b::bs,y::ys,out,out',o,l,hy,h,hj,e=>by
  simp only [List.zip_cons_cons,joinK] at h
  simp only [joinA] at hj
  have hfind:(findA la b.name=none↔colA la b.name<0):=by
   unfold findA colA idxP
   have:(fun a:Attr=>decide (a.name=b.name))=fun t=>eqS t.name b.name:=by
    funext a
    by_cases h:a.name=b.name
    ·simp [h,(eqS_iff b.name b.name).2 rfl]
    ·have:eqS a.name b.name=false:=by
      cases h2:eqS a.name b.name with
      | false=>rfl
      | true=>exact (h ((eqS_iff _ _).1 h2)).elim
     simp [h,this]
   rw [this]
   cases la.findIdx? (fun t=>eqS t.name b.name) with
   | none=>simp
   | some i=>simp <;> omega
  cases hf:findA la b.name with
  | none=>
   rw [hf] at h
   rw [if_pos (hfind.1 hf)] at hj
   exact joinK_width hx bs ys _ out' _ l (by simpa using hy) h hj (by simp [e])
  | some k=>
   rw [hf] at h
   have hc:¬ colA la b.name<0:=fun hc=>by rw [hfind.2 hc] at hf; cases hf
   rw [if_neg hc] at hj
   split at hj
   ·cases hj
   ·simp only at h
    split at h
    ·exact joinK_width hx bs ys _ out' _ l (by simpa using hy) h hj e
    ·cases h
theorem joinK_valid {la:List Attr} {x:List V}:∀ (l:List (Attr × V)) (out out':List V),joinK la x l out=some out'→validR out→(∀ p∈l,validV p.2=true)→validR out'
 | [],out,out',h,ho,_=>by simp [joinK] at h; subst h; exact ho
 | (a,v)::l,out,out',h,ho,hl=>by
  have hl2:=fun p hp=>hl p (List.mem_cons_of_mem _ hp)
  simp only [joinK] at h
  split at h
  ·split at h
   ·exact joinK_valid l out out' h ho hl2
   ·cases h
  ·refine joinK_valid l _ out' h (fun u hu=>?_) hl2
   rcases List.mem_append.1 hu with hu | hu
   ·exact ho u hu
   ·rw [List.mem_singleton.1 hu]; exact hl (a,v) (List.mem_cons_self ..)
theorem insBy_len {α:Type} (c:α→α→Int) (x:α):∀ l:List α,(insBy c x l).length≤l.length+1
 | []=>by simp [insBy]
 | y::l=>by
  have:=insBy_len c x l
  simp only [insBy]
  repeat' split
  all_goals simp <;> omega
theorem sortBy_len {α:Type} (c:α→α→Int):∀ l:List α,(sortBy c l).length≤l.length
 | []=>by simp [sortBy]
 | x::l=>by
  have h1:=sortBy_len c l
  have h2:=insBy_len c x (sortBy c l)
  simp only [sortBy,List.foldr_cons,List.length_cons] at *; omega
theorem minW_length (l:List W):(minW l).length≤l.length:=
 Nat.le_trans (sortBy_len _ _) (Nat.le_trans (List.length_filter_le _ _) (norms_len l))
theorem join_adds {n:Nat} {la lb l:List Attr} {m1 m2:AM} (h1:Clo n la.length m1) (h2:Clo n lb.length m2) (hj:joinA la la lb=some l):Adds n l.length (m1.flatMap fun q=>m2.flatMap (joinG la lb q)):=by
 have hm:∀ x∈m1.flatMap fun q=>m2.flatMap (joinG la lb q),∃ q1∈m1,∃ q2∈m2,∃ row,joinR la lb q1.2.row q2.2.row=some row∧x=(row,minW (bothL q1.2.ways q2.2.ways)):=by
  intro x hx
  obtain ⟨q1,hq1,hx⟩:=List.mem_flatMap.1 hx
  obtain ⟨q2,hq2,hx⟩:=List.mem_flatMap.1 hx
  unfold joinG at hx
  split at hx
  ·rename_i row hr; exact ⟨q1,hq1,q2,hq2,row,hr,List.mem_singleton.1 hx⟩
  ·simp at hx
 refine ⟨fun x hx=>?_,fun x hx=>?_,fun x hx=>?_,fun x hx=>?_,?_⟩
 ·obtain ⟨q1,hq1,q2,hq2,row,hr,rfl⟩:=hm x hx
  refine joinK_valid _ _ _ hr (h1.valid q1 hq1) fun p hp=>?_
  exact h2.valid q2 hq2 p.2 (List.of_mem_zip hp).2
 ·obtain ⟨q1,hq1,q2,hq2,row,hr,rfl⟩:=hm x hx
  exact joinK_width (h1.width q1 hq1) lb q2.2.row _ _ _ _ (h2.width q2 hq2) hr hj (h1.width q1 hq1)
 ·obtain ⟨q1,hq1,q2,hq2,row,hr,rfl⟩:=hm x hx
  exact inW_min (inW_both (h1.inN q1 hq1) (h2.inN q2 hq2))
 ·obtain ⟨q1,hq1,q2,hq2,row,hr,rfl⟩:=hm x hx
  exact fun w hw=>minW_sorted hw
 ·have hin:∀ q1∈m1,sumW (m2.flatMap (joinG la lb q1))≤160000000:=by
   intro q1 hq1
   have:=sumW_le 160000 (joinG la lb q1) m2 fun q2 hq2=>by
    unfold joinG
    split
    ·rw [sumW_one]
     refine Nat.le_trans (minW_length _) ?_
     rw [bothL_len]
     exact Nat.le_trans (Nat.mul_le_mul (h1.few q1 hq1) (h2.few q2 hq2)) (by decide)
    ·simp [sumW]
   have:=h2.len; omega
  have:=sumW_le 160000000 (fun q1=>m2.flatMap (joinG la lb q1)) m1 hin
  have:=h1.len; omega
theorem kid_adds {tl:List Tbl} {facts:List Fct} (hf:factsOk tl facts) {n:Nat} {p:Plan} (hs:Shape tl n p) {ms:List AM} (hl:ms.length=p.kids.length) (hc:∀ i (h:i<p.kids.length) (h2:i<ms.length),Clo facts.length p.kids[i].attrs.length ms[i]) {L:AddL} (h:kidAdds p facts ms=some L):
  Adds facts.length p.attrs.length L:=by
 unfold kidAdds at h
 cases hs with
 | table hk hks h0 h1 hl'=>
  rw [if_pos hk] at h; cases h
  rw [hl']; exact tabAdds_ok hf h0 h1
 | sel hk q hks hq hsv hl'=>
  rw [if_neg (by omega),hks] at h
  rw [hks] at hl
  obtain ⟨m,rfl⟩:=List.length_eq_one_iff.1 hl
  have c:=hc 0 (by rw [hks]; simp) (by simp)
  simp only [hks,List.getElem_cons_zero] at c
  simp only at h
  rw [if_pos hk] at h; cases h
  rw [hl']; exact sel_adds p c
 | proj hk q hks hq hcc hl'=>
  rw [if_neg (by omega),hks] at h
  rw [hks] at hl
  obtain ⟨m,rfl⟩:=List.length_eq_one_iff.1 hl
  have c:=hc 0 (by rw [hks]; simp) (by simp)
  simp only [hks,List.getElem_cons_zero] at c
  simp only at h
  rw [if_neg (by omega),if_pos hk] at h; cases h
  rw [hl']; exact proj_adds p c hcc
 | ren hk q hks hq hl'=>
  rw [if_neg (by omega),hks] at h
  rw [hks] at hl
  obtain ⟨m,rfl⟩:=List.length_eq_one_iff.1 hl
  have c:=hc 0 (by rw [hks]; simp) (by simp)
  simp only [hks,List.getElem_cons_zero] at c
  simp only at h
  rw [if_neg (by omega),if_neg (by omega)] at h; cases h
  rw [hl']; exact clo_adds c
 | join hk q r hks hq hr hn hj=>
  rw [if_neg (by omega),hks] at h
  rw [hks] at hl
  obtain ⟨m1,m2,rfl⟩:=two_of hl
  have c1:=hc 0 (by rw [hks]; simp) (by simp)
  have c2:=hc 1 (by rw [hks]; simp) (by simp)
  simp only [hks,List.getElem_cons_zero,List.getElem_cons_succ] at c1 c2
  simp only at h
  rw [if_pos hk] at h; cases h
  obtain ⟨l,hj1,hj2⟩:=hj
  rw [hj2]; exact join_adds c1 c2 hj1
 | union hk q r hks hq hr hl1 hl2=>
  rw [if_neg (by omega),hks] at h
  rw [hks] at hl
  obtain ⟨m1,m2,rfl⟩:=two_of hl
  have c1:=hc 0 (by rw [hks]; simp) (by simp)
  have c2:=hc 1 (by rw [hks]; simp) (by simp)
  simp only [hks,List.getElem_cons_zero,List.getElem_cons_succ] at c1 c2
  simp only at h
  rw [if_neg (by omega),if_pos hk] at h; cases h
  rw [← hl1] at c1; rw [← hl2] at c2
  exact union_adds c1 c2
 | minus hk q r hks hq hr hl1 hl2=>
  rw [if_neg (by omega),hks] at h
  rw [hks] at hl
  obtain ⟨m1,m2,rfl⟩:=two_of hl
  have c1:=hc 0 (by rw [hks]; simp) (by simp)
  have c2:=hc 1 (by rw [hks]; simp) (by simp)
  simp only [hks,List.getElem_cons_zero,List.getElem_cons_succ] at c1 c2
  simp only at h
  rw [if_neg (by omega),if_neg (by omega)] at h
  split at h
  ·cases h
   rw [hl1]; exact minus_adds c1 c2
  ·cases h
theorem grp_kids {p:Plan} (h:grp p=false):p.kind≠8∧∀ q∈p.kids,grp q=false:=by
 rw [grp_eq] at h
 simp only [Bool.or_eq_false_iff,beq_eq_false_iff_ne,List.any_eq_false] at h
 exact ⟨h.1,fun q hq=>by simpa using h.2 q hq⟩
theorem Shape.kids {tl:List Tbl} {n:Nat} {p:Plan} (h:Shape tl n p):∀ q∈p.kids,validB n tl q=true:=by
 cases h with
 | table _ hks=>rw [hks]; simp
 | sel _ q hks hq=>rw [hks]; simpa using hq
 | proj _ q hks hq=>rw [hks]; simpa using hq
 | ren _ q hks hq=>rw [hks]; simpa using hq
 | join _ q r hks hq hr=>rw [hks]; simp [hq,hr]
 | union _ q r hks hq hr=>rw [hks]; simp [hq,hr]
 | minus _ q r hks hq hr=>rw [hks]; simp [hq,hr]
theorem evN_clo {tl:List Tbl} {facts:List Fct} (hf:factsOk tl facts):∀ (n:Nat) (p:Plan) (m:AM),validB n tl p=true→grp p=false→EvN facts n p m→Clo facts.length p.attrs.length m
 | 0,_,_,_,_,h=>h.elim
 | n+1,p,m,hv,hg,⟨ms,hl,hk,L0,L,h0,hp,hc,hm⟩=>by
  obtain ⟨h8,hgk⟩:=grp_kids hg
  have hs:=valid_shape hv h8
  have hkc:∀ i (h:i<p.kids.length) (h2:i<ms.length),Clo facts.length p.kids[i].attrs.length ms[i]:=fun i h h2=>
   evN_clo hf n _ _ (hs.kids _ (List.getElem_mem h)) (hgk _ (List.getElem_mem h)) (hk i h h2)
  have:=(kid_adds hf hs hl hkc h0).perm hp.symm
  rw [hm]; exact this.clo hc
theorem runA_self {n c:Nat} {m:AM} (h:Clo n c m):runA (addsM m)=m:=by
 have:∀ (l:AM),(l.map (·.1)).Nodup→(∀ q∈l,q.1=rowB q.2.row)→runA (addsM l)=l:=by
  intro l
  induction hl:l.length generalizing l with
  | zero=>intro _ _; rw [List.length_eq_zero_iff.1 hl]; rfl
  | succ k ih=>
   intro hn hq
   rcases List.eq_nil_or_concat l with rfl | ⟨l',q,rfl⟩
   ·simp at hl
   ·simp only [List.concat_eq_append] at hl hn hq ⊢
    simp only [List.map_append,List.map_cons,List.map_nil] at hn
    have hn':=List.nodup_append.1 hn
    have e:addsM (l' ++ [q])=addsM l' ++ [(q.2.row,q.2.ways)]:=by simp
    rw [e,runA_snoc,ih l' (by simpa using hl) hn'.1 (fun x hx=>hq x (List.mem_append_left _ hx))]
    have hqn:=hq q (by simp)
    rw [addL_none (fun x hx e2=>hn'.2.2 x.1 (List.mem_map.2 ⟨x,hx,rfl⟩) q.1 (by simp) (by rw [e2]; exact hqn.symm))]
    rw [← hqn]
 exact this m h.nodup h.name
end Go.Proofs.YtjbhhddfaohdnaaGreatDoor
end
