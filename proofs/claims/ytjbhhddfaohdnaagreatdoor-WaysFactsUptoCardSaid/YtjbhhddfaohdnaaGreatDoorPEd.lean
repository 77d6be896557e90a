/- A part of the proof. -/
import Derived.Test.YtjbhhddfaohdnaaGreatDoorPK6
set_option linter.all false
set_option linter.deprecated false
open ByteArray renaming empty→ajl
open Go.Lib renaming itoa_length_le→avD,formatBool→asR,decDigits→arw,itoa→aqs
open Go.Proofs.Tryz renaming prog→aai
open Int renaming toNat_zero→afY,reduceEq→aga
open List renaming cons_append→agA,Nodup→ar4,length_cons→afM,length_nil→agq,mem_iff_getElem→axo,getElem_cons_zero→agV,getElem_cons_succ→apb,nil_append→agU,foldl_cons→aro,foldl_nil→aw5
section
namespace Go.Proofs.Z
open Go Go.au Go.Proofs
set_option maxRecDepth 10000
set_option maxHeartbeats 4000000
theorem ai1:aH aai 153:=fun _ _=>by kernel_rfl
theorem aeg:aH aai 75:=fun _ _=>by kernel_rfl
theorem _root_.Go.au.zY {C:Cx} {n:Nat} {a:Act} {w:World}:∀ {k:List KI},fin C k (.goto n) a w→C.post (.goto n) a w
 | [],h=>h
 | .code _::k,h=>zY (k:=k) h
 | .ops _ _::k,h=>zY (k:=k) h
 | .inBlock _::k,h=>zY (k:=k) h
 | .aP _::k,h=>zY (k:=k) h
theorem _root_.Go.au.R.scope {C:Cx} {k:List KI} {s:St} {c:Code} (hp:∀ n a w,¬ C.post (.goto n) a w) (h:R C (.code c::k) s):R C (.code (.scope c)::k) s:=by
 intro a w E g
 refine wp_scope_straight (wp_mono (h a w E g) ?_)
 intro e a w hq
 cases e with
 | goto n=>exact hp n a w (zY hq)
 | normal=>exact hq
 | exit _=>exact hq
 | ret=>exact hq
 | panic _=>exact hq
 | outgrown=>exact hq
theorem _root_.Go.au.R.label {C:Cx} {k:List KI} {s:St} {n:Nat} (h:R C k s):R C (.code (.label n)::k) s:=fun a w E g=>wp_label (h a w E g)
theorem ZV (l:List V) (hl:l.length≤1000000000):eH aai 75 [.pd (vals l)] [] [] (fun res M'=>res = .own ⟨76,3,l.map val⟩∧M'=[]):=by
 refine eH.mk Tryz.func75 rfl aeg (by simp [Tryz.ntmps75]) fun w G=>?_
 refine aQk ?_
 refine fun b hb=>⟨fun h=>?_,fun h=>?_⟩
 ·refine aQk ?_
  refine R.ku 2 2 76 3 (by (simp only [go_sem])) rfl rfl ?_
  simp only [go_sem]
  refine R.rX rfl rfl rfl ⟨?_,rfl⟩
  rw [hb h]
 ·(refine aA 3 _ _ ?_; simp only [go_sem])
  refine R.empty 5 rfl rfl rfl rfl (by (simp only [go_sem])) BP (by rw [EU,yc]; decide) (by rw [EU,BR]; rfl) ?_
  refine aQk ?_
  refine R.append rfl rfl (ah (by (simp only [go_sem]))) rfl rfl rfl (es:=l.map val) rfl BP rfl yc (by decide) (congrArg (Option.map List.length) BR) rfl (fun i hi=>?_) ?_ ?_ ?_
  ·simp only [adu] at hi
   simp only [getD_map,hi]; rfl
  ·rw [EU,FZ]; simp; omega
  ·simp [maxLen]; omega
  refine aQk ?_
  exact R.rX rfl rfl rfl ⟨rfl,rfl⟩
abbrev jR (la:List Attr):List (Attr × Nat):=la.zipIdx
abbrev o7 (l:List (Attr × Nat)):jW:=l.map fun p=>(.string p.1.name,I p.2)
def jC (la:List Attr) (n:ByteArray):Option Nat:=la.findIdx? fun a=>decide (a.name=n)
def gV (la:List Attr) (x:List V):List (Attr × V)→List V→Option (List V)
 | [],out=>some out
 | (a,v)::l,out=>match jC la a.name with
  | some k=>if jc (x.getD k V.zero) 1 v 0 then gV la x l out else none
  | none=>gV la x l (out++[v])
def jk (la lb:List Attr) (x y:List V):Option (List V):=gV la x (lb.zip y) x
theorem A8 (la:List Attr) (x:List V) (m:List (Attr × V)):∀ (l:List (Attr × V)) (out:List V),gV la x (l++m) out=(gV la x l out).bind (gV la x m)
 | [],out=>rfl
 | (a,v)::l,out=>by
  simp only [agA,gV]
  split
  ·split
   ·exact A8 la x m l out
   ·rfl
  ·exact A8 la x m l _
theorem GU (la:List Attr) (x:List V):∀ (l:List (Attr × V)) (out out':List V),gV la x l out=some out'→out'.length≤out.length+l.length
 | [],out,out',h=>by simp only [gV,ad2] at h; subst h; simp
 | (a,v)::l,out,out',h=>by
  simp only [gV] at h
  split at h
  ·split at h
   ·have:=GU la x l out out' h; simp; omega
   ·cases h
  ·have:=GU la x l _ out' h; simp at this ⊢; omega
def iq (la lb:List Attr) (q1 q2:ByteArray × Ans):bD:=match jk la lb q1.2.row q2.2.row with
 | some row=>[(row,bC (dS q1.2.ways q2.2.ways))]
 | none=>[]
theorem alq (la:List Attr) (hn:(la.map (·.name)).Nodup) (n:ByteArray):(∃ k,jC la n=some k∧k<la.length∧mJ aai 3 .string (.string n) ((o7 (jR la)).map (·.1)) ((o7 (jR la)).map (·.2)) true (I k))∨(jC la n=none∧mJ aai 3 .string (.string n) ((o7 (jR la)).map (·.1)) ((o7 (jR la)).map (·.2)) false (I 0)):=by
 have hkk:∀ k∈(o7 (jR la)).map (·.1),bV .string k=true:=by
  intro k hk
  simp only [apC,adE] at hk
  obtain ⟨p,_,rfl⟩:=hk
  rfl
 have hks:(o7 (jR la)).map (·.1)=la.map fun a=>Value.string a.name:=by
  apply am8
  ·simp
  ·intro i h1 h2; simp
 have hds:(o7 (jR la)).map (·.2)=(List.range la.length).map fun i=>I (i:Nat):=by
  apply am8
  ·simp
  ·intro i h1 h2; simp
 cases h:jC la n with
 | some k=>
  unfold jC at h
  rw [apB] at h
  obtain ⟨hk,hk2,_⟩:=h
  refine .inl ⟨k,rfl,hk,rfl,hkk,?_,k,by rw [hks]; simpa using hk,?_,?_⟩
  ·rw [hks]
   simp only [ar4,ap0] at hn ⊢
   exact hn.imp fun h e=>h (by simpa using e)
  ·rw [hks]; simp at hk2; simp [hk,hk2]
  ·rw [hds]; simp [hk]
 | none=>
  unfold jC at h
  rw [asN] at h
  refine .inr ⟨rfl,rfl,fun k hk=>⟨hkk k hk,fun e=>?_⟩,zd3⟩
  rw [hks] at hk
  obtain ⟨a,ha,rfl⟩:=adE.1 hk
  have:=h a ha
  simp at e this; exact this e
theorem acG (p k0 k1:Plan) (facts:List bF) (hk:p.kids=[k0,k1]) (r1 r2:Nat) (m1 m2:AM) (h12:r1≠r2) (n1:(m1.map (·.1)).Nodup) (n2:(m2.map (·.1)).Nodup) (s1:GR m1) (s2:GR m2)
  (hna:(k0.attrs.map (·.name)).Nodup) (hla:k0.attrs.length≤100000000) (hlb:k1.attrs.length≤100000000) (hr1:∀ q∈m1,q.2.row.length=k0.attrs.length) (hr2:∀ q∈m2,q.2.row.length=k1.attrs.length)
  (ho:okD (m1.flatMap fun q1=>m2.flatMap (iq k0.attrs k1.attrs q1))):
  eH aai 153 [.pd (OD p facts [r1,r2])] [(r1,aI m1),(r2,aI m2)] [] (GI (m1.flatMap fun q1=>m2.flatMap (iq k0.attrs k1.attrs q1))):=by
 have hz:=bW h12
 generalize aog:k0.attrs=la at *
 generalize aoh:k1.attrs=lb at *
 refine eH.mk Tryz.func153 rfl ai1 (by simp [Tryz.ntmps153]) fun w G=>?_
 simp only [OD,hk,ads,adG]
 refine aQk ?_
 refine R.makeMap rfl rfl rfl (by (simp only [go_sem])) fun rl hl1 hr0=>?_
 have f1:=bW (eP (q:=r1) (x:=.map (aI m1)) hr0 (by simp [St.map,St.bn,lk]))
 have f2:=bW (eP (q:=r2) (x:=.map (aI m2)) hr0 (by simp [St.map,St.bn,lk,hz]))
 clear hr0
 apply ev8; simp only [go_sem,afY,aJ k0,aog]
 repeat refine ⟨by omega,?_⟩
 have hl0:([]:jW)=o7 ((jR la).take 0):=rfl
 refine R.wC (fun (k:Nat) s=>{ St.lp [1,2,3,6,8,10,11,12,13,14,15,22,23,34,35,36,37,38,39,40,41,42,43,44,45,46,47,48,49,50,51,52,53,54,55,56,57,58,59,60,61,62,63,64,65,66,67,68,69,70,71,72,73,74,75,76,77,78,79,80,81,82,83,84,85,86,87,88,89,90,91,92,93,94,95,96,97,98,99,100,101,102,103,104,105,107] [(24,.pd (I k))] [1,8,10,13] [] [] [] s with maps:=[(rl,.map (o7 ((jR la).take k))),(r1,.map (aI m1)),(r2,.map (aI m2))] }) (fun (k:Nat)=>k≤la.length) (fun (k:Nat)=>la.length - k) (0) (by omega) (by (simp only [go_sem,f1,f2,hz]); all_goals (and_intros <;> first | rfl | simp)) ?_
 rintro k hk'
 apply aB; simp only [go_sem,aau,SV.pd.injEq]
 refine ⟨fun h=>?_,fun h=>?_⟩
 ·have hlt:k<la.length:=by simpa using h
  have hlz:k<(jR la).length:=by simpa using hlt
  have hsn:o7 ((jR la).take (k+1))=o7 ((jR la).take k)++[(.string la[k].name,I k)]:=by
   rw [aaG hlz]; simp
  apply aB; simp only [go_sem,aau,SV.pd.injEq,getD_map,hlt]
  repeat refine ⟨by omega,?_⟩
  refine R.jr (m:=o7 ((jR la).take k)) (.inl rfl) rfl (ah (by (simp only [go_sem]))) rfl (by simp [St.map,lk]) rfl rfl Qb rfl (fun q hq=>?_) (.inl hl1) ?_
  ·obtain ⟨q',hq',rfl⟩:=adE.1 hq
   refine ⟨rfl,fun e=>?_⟩
   obtain ⟨j,hj,rfl⟩:=at1.1 hq'
   simp only [List.getElem_zipIdx] at e
   have e:la[j].name=la[k].name:=by simpa using e
   have:=agc.1 hna j k (by simp at hj ⊢; omega) (by simpa using hlt) (by omega)
   simp only [apX] at this
   exact this e
  apply ev8; simp only [go_sem,fK,dX.fK,wrapN (k:=k) (by omega)]
  refine R.fE (k+1) (by omega) (l:=by (simp only [go_sem,hsn,f1,f2,hz]); all_goals (and_intros <;> rfl))
 have hke:(jR la).take k=jR la:=adw (by have h':¬ k<la.length:=(by simpa using h); simp; omega)
 rw [hke]
 refine aQk ?_
 refine R.makeMap rfl rfl rfl (by (simp only [go_sem])) fun r hr1' hr0=>?_
 have e1:=bW (eP (q:=r1) (x:=.map (aI m1)) hr0 (by simp [St.map,lk,f1]))
 have e2:=bW (eP (q:=r2) (x:=.map (aI m2)) hr0 (by simp [St.map,lk,f2,hz]))
 have e3:=bW (eP (q:=rl) (x:=.map (o7 (jR la))) hr0 (by simp [St.map,lk]))
 clear hr0
 apply ev8; simp only [go_sem,afY]
 repeat refine ⟨by omega,?_⟩
 refine R.zU m1 rfl rfl rfl (by (simp only [go_sem])) rfl (by simp [St.map,lk,e1,f1]) (by show (pF aai 95).isSome=true; rw [qA]; rfl) fun b hb1 hb2=>?_
 have e4:=bW (eP (q:=r) (x:=.map []) hb2 (by simp [St.map,lk]))
 have e5:=bW (eP (q:=r1) (x:=.map (aI m1)) hb2 (by simp [St.map,lk,e1,f1]))
 have e6:=bW (eP (q:=r2) (x:=.map (aI m2)) hb2 (by simp [St.map,lk,e2,f2,hz]))
 have e7:=bW (eP (q:=rl) (x:=.map (o7 (jR la))) hb2 (by simp [St.map,lk,e3]))
 clear hb1 hb2
 refine aQk ?_
 refine R.wC (fun (y:AM × AM × bD × Option Value) s=>{ St.lp [1,2,3,6,39,107] [] [1,5] [] [] [] s with maps:=[(b,.it r1 (y.2.1.map keyS) y.2.2.2),(r,.map (aI (bQ y.2.2.1))),(rl,.map (o7 (jR la))),(r1,.map (aI m1)),(r2,.map (aI m2))] }) (fun (y:AM × AM × bD × Option Value)=>(y.1++y.2.1).Perm m1∧y.2.2.1.Perm ([]++y.1.flatMap fun q1=>m2.flatMap (iq la lb q1))) (fun (y:AM × AM × bD × Option Value)=>y.2.1.length) (([],m1,[],none)) (⟨.refl _,by simp⟩) (by (simp only [go_sem,zS,e1,e2,e3,f1,f2,hz,e4,e5,e6,e7]); all_goals (and_intros <;> first | rfl | simp)) ?_
 rintro ⟨done,left,L',cur⟩ ⟨hp,hL'⟩
 simp only at hp hL'
 refine aQk ?_
 refine R.Ii (m:=m1) (r:=r1) (cur:=cur) (left:=left) (done:=done) n1 hp rfl rfl (ah (by (simp only [go_sem]))) rfl (by simp [St.map,lk]) (by simp [St.map,lk,e1,e2,e3,f1,f2,hz,e4,e5,e6,e7]) (fun hz0=>?_) (fun l1 q l2 hz0 hpm hp2=>?_)
 ·subst hz0
  have hL2:L'.Perm (m1.flatMap fun q1=>m2.flatMap (iq la lb q1)):=by refine hL'.trans ?_; exact anf _ (by simpa using hp)
  refine aQl ?_
  refine R.uY (vc:=True) [(r,aI (bQ L'))] rfl trivial ⟨r,L',rfl,rfl,hL2⟩ (fun r' m' h=>?_)
  simp only [lk] at h
  split at h
  ·rename_i e; subst e; cases h; exact ⟨by simp [St.map,lk,e1,e2,e3,f1,f2,hz,e4,e5,e6,e7],.inr hr1'⟩
  ·cases h
 ·refine aQl ?_
  refine R.zV (p:=q) (left:=(l1++l2).map keyS) (r:=r1) n1 hpm rfl rfl (ah (by (simp only [go_sem]))) rfl (by simp [St.map,lk]) (by simp [St.map,lk,up,e1,e2,e3,f1,f2,hz,e4,e5,e6,e7]) ?_
  have hstep:=qL (g:=fun q1=>m2.flatMap (iq la lb q1)) hL' q
  have hpre:=wO (A:=[]) (g:=fun q1=>m2.flatMap (iq la lb q1)) ho hp2 hL'
  have hq1:=s1 q hpm
  have hx:=hr1 q hpm
  refine aQk ?_
  refine R.scope (fun _ _ _ h=>h) ?_
  refine aQk ?_
  refine R.label ?_
  apply ev8; simp only [go_sem,Int.toNat_one,afY]
  repeat refine ⟨by omega,?_⟩
  refine R.zU m2 rfl rfl rfl (by (simp only [go_sem])) rfl (by simp [St.map,lk,up,e1,e2,e3,f1,f2,hz,e4,e5,e6,e7]) (by show (pF aai 95).isSome=true; rw [qA]; rfl) fun b2 hb1 hb2=>?_
  have g0:=bW (eP (q:=b) (x:=.it r1 ((l1++l2).map keyS) (some (keyS q))) hb2 (by simp [St.map,lk,up]))
  have g4:=bW (eP (q:=r) (x:=.map (aI (bQ L'))) hb2 (by simp [St.map,lk,up,e1,e2,e3,f1,f2,hz,e4,e5,e6,e7]))
  have g5:=bW (eP (q:=r1) (x:=.map (aI m1)) hb2 (by simp [St.map,lk,up,e1,e2,e3,f1,f2,hz,e4,e5,e6,e7]))
  have g6:=bW (eP (q:=r2) (x:=.map (aI m2)) hb2 (by simp [St.map,lk,up,e1,e2,e3,f1,f2,hz,e4,e5,e6,e7]))
  have g7:=bW (eP (q:=rl) (x:=.map (o7 (jR la))) hb2 (by simp [St.map,lk,up,e1,e2,e3,f1,f2,hz,e4,e5,e6,e7]))
  clear hb1 hb2
  refine aQk ?_
  refine R.wC (fun (z:AM × AM × bD × Option Value) s=>{ St.lp [1,2,3,6,8,39,48,107] [] [1,5,8] [] [] [] s with maps:=[(b2,.it r2 (z.2.1.map keyS) z.2.2.2),(b,.it r1 ((l1++l2).map keyS) (some (keyS q))),(r,.map (aI (bQ z.2.2.1))),(rl,.map (o7 (jR la))),(r1,.map (aI m1)),(r2,.map (aI m2))] }) (fun (z:AM × AM × bD × Option Value)=>(z.1++z.2.1).Perm m2∧z.2.2.1.Perm (L' ++ z.1.flatMap (iq la lb q))) (fun (z:AM × AM × bD × Option Value)=>z.2.1.length) (([],m2,L',none)) (⟨.refl _,by simp⟩) (by (simp only [go_sem,e1,e2,e3,f1,f2,hz,e4,e5,e6,e7,g0,g4,g5,g6,g7]); all_goals (and_intros <;> first | rfl | simp)) ?_
  rintro ⟨done2,alr,L2,MO⟩ ⟨hp3,hL3⟩
  simp only at hp3 hL3
  refine aQk ?_
  refine R.Ii (m:=m2) (r:=r2) (cur:=MO) (left:=alr) (done:=done2) n2 hp3 rfl rfl (ah (by (simp only [go_sem]))) rfl (by simp [St.map,lk]) (by simp [St.map,lk,e1,e2,e3,f1,f2,hz,e4,e5,e6,e7,g0,g4,g5,g6,g7]) (fun hz1=>?_) (fun l3 q' l4 hz1 acH hp4=>?_)
  ·subst hz1
   have hL4:L2.Perm (L' ++ m2.flatMap (iq la lb q)):=hL3.trans (arF _ (anf _ (by simpa using hp3)))
   have hL5:L2.Perm ([]++(done++[q]).flatMap fun q1=>m2.flatMap (iq la lb q1)):=hL4.trans hstep
   refine aQl ?_
   refine R.fE (done++[q],l1++l2,L2,some (keyS q)) ⟨hp2,hL5⟩ (hm:=by (subst hz0; show _<_; simp <;> omega)) (l:=by (simp only [go_sem,e1,e2,e3,f1,f2,hz,e4,e5,e6,e7,g0,g4,g5,g6,g7]); all_goals (and_intros <;> rfl))
  ·refine aQl ?_
   refine R.zV (p:=q') (left:=(l3++l4).map keyS) (r:=r2) n2 acH rfl rfl (ah (by (simp only [go_sem]))) rfl (by simp [St.map,lk]) (by simp [St.map,lk,up,e1,e2,e3,f1,f2,hz,e4,e5,e6,e7,g0,g4,g5,g6,g7]) ?_
   have hstep2:=qL (g:=iq la lb q) hL3 q'
   have aeh:=wO (A:=L') (g:=iq la lb q) hpre hp4 hL3
   have hq2:=s2 q' acH
   have hy:=hr2 q' acH
   refine aQk ?_
   refine R.eG (by rfl) 11 (by rfl) rfl rfl (ah (by (simp only [go_sem]))) (.cons (.pd _) .nil) (ZV q.2.row (by rw [hx]; omega)) (fun r' m' h=>by simp [lk] at h) (fun r' h=>by simp at h) ?_
   rintro res M' ⟨rfl,rfl⟩ hh; clear hh
   simp only [Behind]
   apply ev8; simp only [go_sem,apW,e1,e2,e3,f1,f2,hz,e4,e5,e6,e7,g0,g4,g5,g6,g7,Int.toNat_one,aJ k1,aoh]
   repeat refine ⟨by omega,?_⟩
   refine R.fU (fun (z:Nat × List V) s=>St.lp [1,2,3,6,8,10,39,48,61,62,98,99,100,101,102,103,104,105,107] [(63,.pd (I z.1)),(11,.own 11)] [1,5,8,10] [] [] [(11,⟨76,3,z.2.map val⟩)] s) (fun (z:Nat × List V)=>z.1≤lb.length∧gV la q.2.row ((lb.zip q'.2.row).take z.1) q.2.row=some z.2) (fun (z:Nat × List V)=>lb.length - z.1) ((0,q.2.row)) (⟨by show 0≤_; omega,by simp [gV]⟩) ?_ (by (simp only [go_sem,e1,e2,e3,f1,f2,hz,e4,e5,e6,e7,g0,g4,g5,g6,g7]); all_goals (and_intros <;> rfl))
   rintro ⟨i,out⟩ ⟨hi,hout⟩
   simp only at hi hout
   have hol:=GU _ _ _ _ _ hout
   rw [anc,hx] at hol
   apply aB; simp only [go_sem,aau,SV.pd.injEq]
   refine ⟨fun h=>?_,fun h=>?_⟩
   ·have hlt:i<lb.length:=by simpa using h
    have hlty:i<q'.2.row.length:=by rw [hy]; exact hlt
    have hlz:i<(lb.zip q'.2.row).length:=by simp; omega
    have hsn:gV la q.2.row ((lb.zip q'.2.row).take (i+1)) q.2.row=gV la q.2.row [(lb[i],q'.2.row[i])] out:=by
     rw [aaG hlz,A8,hout]; simp
    have hdr:jk la lb q.2.row q'.2.row=(gV la q.2.row [(lb[i],q'.2.row[i])] out).bind (gV la q.2.row ((lb.zip q'.2.row).drop (i+1))):=by
     unfold jk
     conv=>lhs; rw [← aj8 (i+1) (lb.zip q'.2.row),A8,hsn]
    apply aB; simp only [go_sem,aau,SV.pd.injEq,getD_map,hlt]
    repeat refine ⟨by omega,?_⟩
    rcases alq la hna lb[i].name with ⟨k,hk1,hk2,hlook⟩ | ⟨hk1,hlook⟩
    ·refine R.wX (m:=o7 (jR la)) rfl rfl (ah (by (simp only [go_sem]))) rfl (by simp [St.map,lk,e1,e2,e3,f1,f2,hz,e4,e5,e6,e7,g0,g4,g5,g6,g7]) rfl Qb hlook ?_
     have hkx:k<q.2.row.length:=by rw [hx]; exact hk2
     refine aQl ?_
     refine R.dA 10 80 mixed (by decide +kernel) ?_; simp only [go_sem,getD_map,hkx,hlty]
     repeat refine ⟨by omega,?_⟩
     refine R.kC (Nj q.2.row[k] 1 q'.2.row[i] 0) rfl rfl (.cons (.pd _) (.cons (.pd _) (.cons (.pd _) (.cons (.pd _) (.nil))))) ?_
     refine aQk ?_
     refine ⟨fun h2=>?_,fun h2=>?_⟩
     ·have hno:jc q.2.row[k] 1 q'.2.row[i] 0=false:=by simpa using h2
      have hnone:jk la lb q.2.row q'.2.row=none:=by
       rw [hdr]; simp [gV,hk1,hkx,hno]
      have hg:iq la lb q q'=[]:=by simp [iq,hnone]
      rw [hg,ao3] at hstep2
      refine aQk ?_
      refine R.fE (done2++[q'],l3++l4,L2,some (keyS q')) ⟨hp4,hstep2⟩ (hm:=by (subst hz1; show _<_; simp <;> omega)) (l:=by (simp only [go_sem,e1,e2,e3,f1,f2,hz,e4,e5,e6,e7,g0,g4,g5,g6,g7]); all_goals (and_intros <;> rfl))
     ·have hyes:jc q.2.row[k] 1 q'.2.row[i] 0=true:=by simpa using h2
      have acI:gV la q.2.row ((lb.zip q'.2.row).take (i+1)) q.2.row=some out:=by
       rw [hsn]; simp [gV,hk1,hkx,hyes]
      apply ev8; simp only [go_sem,wrapN (k:=i) (by omega)]
      refine R.fE (i+1,out) ⟨by show i+1≤_; omega,acI⟩ (hm:=by show _<_; simp; omega) (l:=by (simp only [go_sem,e1,e2,e3,f1,f2,hz,e4,e5,e6,e7,g0,g4,g5,g6,g7]); all_goals (and_intros <;> rfl))
    ·refine R.wX (m:=o7 (jR la)) rfl rfl (ah (by (simp only [go_sem]))) rfl (by simp [St.map,lk,e1,e2,e3,f1,f2,hz,e4,e5,e6,e7,g0,g4,g5,g6,g7]) rfl Qb hlook ?_
     have acI:gV la q.2.row ((lb.zip q'.2.row).take (i+1)) q.2.row=some (out++[q'.2.row[i]]):=by
      rw [hsn]; simp [gV,hk1]
     apply aj; simp only [go_sem,↓reduceIte,getD_map,hlty]
     repeat refine ⟨by omega,?_⟩
     refine R.dF 1000000000 32 rfl rfl (by (simp only [go_sem])) rfl rfl rfl rfl BP rfl yc (by simp) (congrArg (Option.map List.length) BR) rfl FZ (by simp; omega) (by decide) (by decide) ?_
     apply ev8; simp only [go_sem,wrapN (k:=i) (by omega)]
     refine R.fE (i+1,out++[q'.2.row[i]]) ⟨by show i+1≤_; omega,acI⟩ (hm:=by show _<_; simp; omega) (l:=by (simp only [go_sem,e1,e2,e3,f1,f2,hz,e4,e5,e6,e7,g0,g4,g5,g6,g7,aei,ads,adG]); all_goals (and_intros <;> rfl))
   ·have hge:lb.length≤i:=by have h':¬ i<lb.length:=(by simpa using h); omega
    have hjr:jk la lb q.2.row q'.2.row=some out:=by
     rw [adw (by simp; omega)] at hout; exact hout
    have hg:iq la lb q q'=[(out,bC (dS q.2.ways q'.2.ways))]:=by simp [iq,hjr]
    rw [hg] at hstep2 aeh
    have hm4:=auz hq1.1 hq2.1
    have hb1:=SQ q.2.ways q'.2.ways (fun w hw=>by have:=hq1.2 w hw; unfold kM NM at *; omega) (fun w hw=>by have:=hq2.2 w hw; unfold kM NM at *; omega) (by have:=hq1.1; omega) (by have:=hq2.1; omega) (by omega)
    have hb2:=vJ (dS q.2.ways q'.2.ways) ⟨by rw [AY]; omega,fun w hw=>by have:=GN hq1.2 hq2.2 w hw; unfold kM okW at *; omega⟩
    refine aQk ?_
    refine R.bT 11 rfl rfl ?_
    simp only [go_sem]
    refine R.kW (hb1) rfl rfl (.cons (.pd _) (.cons (.pd _) (.nil))) ?_
    refine aQk ?_
    refine R.kW (hb2) rfl rfl (.cons (.pd _) (.nil)) ?_
    refine aQk ?_
    refine R.eG (by rfl) 60 (by rfl) rfl rfl (ah (by (simp only [go_sem]))) (.cons (.pd _) (.cons (.pd _) (.cons (.pd _) .nil))) (Dv r L2 (out,bC (dS q.2.ways q'.2.ways)) aeh) (fun r' m' h=>?_) (fun r' h=>?_) ?_
    ·simp only [lk] at h
     split at h
     ·rename_i e; subst e; cases h; simp [St.map,St.put,St.newVar,lk,up,e1,e2,e3,f1,f2,hz,e4,e5,e6,e7,g0,g4,g5,g6,g7]
     ·cases h
    ·simp only [adJ] at h; subst h; exact ⟨by simp [lk],.inl hr1'⟩
    rintro res M' ⟨rfl,rfl⟩ hh; clear hh
    simp only [Behind]
    apply ev8; simp only [go_sem,apW,e1,e2,e3,f1,f2,hz,e4,e5,e6,e7,g0,g4,g5,g6,g7]
    refine R.fE (done2++[q'],l3++l4,L2++[(out,bC (dS q.2.ways q'.2.ways))],some (keyS q')) ⟨hp4,hstep2⟩ (hm:=by (subst hz1; show _<_; simp <;> omega)) (l:=by (simp only [go_sem,e1,e2,e3,f1,f2,hz,e4,e5,e6,e7,g0,g4,g5,g6,g7]); all_goals (and_intros <;> rfl))
def jV (n:ByteArray) (L:bD):List W:=L.flatMap fun x=>if rowB x.1=n then x.2 else []
theorem UJ (n:ByteArray) (L:bD) (x:List V × List W):jV n (L++[x])=jV n L++(if rowB x.1=n then x.2 else []):=by simp [jV]
theorem lg {n:ByteArray} {L:bD} {w:W}:w∈jV n L↔∃ x∈L,rowB x.1=n∧w∈x.2:=by
 simp only [jV,afZ]
 constructor
 ·rintro ⟨x,hx,h⟩
  split at h
  ·rename_i e; exact ⟨x,hx,e,h⟩
  ·simp at h
 ·rintro ⟨x,hx,e,h⟩
  exact ⟨x,hx,by rw [adA e]; exact h⟩
theorem S9 {n:ByteArray} {row:List V} {l:List W}:∀ {m:AM},(m.map (·.1)).Nodup→∀ p∈jL n row l m,(p∈m∧p.1≠n)∨(p.1=n∧p.2.row=row∧((∃ q∈m,q.1=n∧p.2.ways=q.2.ways++l)∨((∀ q∈m,q.1≠n)∧p.2.ways=l)))
 | [],_,p,hp=>by simp only [jL,adJ] at hp; subst hp; exact .inr ⟨rfl,rfl,.inr ⟨by simp,rfl⟩⟩
 | (n',a)::m,hn,p,hp=>by
  simp only [ads,apq] at hn
  simp only [jL] at hp
  split at hp
  ·rename_i e
   subst e
   rcases agB.1 hp with rfl | hp
   ·exact .inr ⟨rfl,rfl,.inl ⟨(n',a),aeC ..,rfl,rfl⟩⟩
   ·exact .inl ⟨aej _ hp,fun e=>hn.1 (e ▸ adE.2 ⟨p,hp,rfl⟩)⟩
  ·rename_i e
   rcases agB.1 hp with rfl | hp
   ·exact .inl ⟨aeC ..,e⟩
   ·rcases S9 hn.2 p hp with ⟨h1,h2⟩ | ⟨h1,h2,⟨q,hq,h3⟩ | ⟨h3,h4⟩⟩
    ·exact .inl ⟨aej _ h1,h2⟩
    ·exact .inr ⟨h1,h2,.inl ⟨q,aej _ hq,h3⟩⟩
    ·refine .inr ⟨h1,h2,.inr ⟨fun q hq=>?_,h4⟩⟩
     rcases agB.1 hq with rfl | hq
     ·exact e
     ·exact h3 q hq
theorem xM (L:bD):(∀ p∈bQ L,p.2.ways=jV p.1 L∧∃ x∈L,p.1=rowB x.1∧p.2.row=x.1)∧∀ n,n∈(bQ L).map (·.1)↔∃ x∈L,rowB x.1=n:=by
 refine foldl_rev (P:=fun L m=>(m.map (·.1)).Nodup∧(∀ p∈m,p.2.ways=jV p.1 L∧∃ x∈L,p.1=rowB x.1∧p.2.row=x.1)∧∀ n,n∈m.map (·.1)↔∃ x∈L,rowB x.1=n) ⟨by simp,by simp,by simp⟩ ?_ L |>.2
 rintro L x m ⟨hn,h1,h2⟩
 have hkeys:∀ n,n∈(jL (rowB x.1) x.1 x.2 m).map (·.1)↔∃ y∈L++[x],rowB y.1=n:=by
  intro n
  rw [Gy,h2 n]
  constructor
  ·rintro (rfl | ⟨y,hy,e⟩)
   ·exact ⟨x,by simp,rfl⟩
   ·exact ⟨y,arK _ hy,e⟩
  ·rintro ⟨y,hy,e⟩
   rcases agh.1 hy with hy | hy
   ·exact .inr ⟨y,hy,e⟩
   ·rw [adJ.1 hy] at e; exact .inl e.symm
 refine ⟨yO hn,fun p hp=>?_,hkeys⟩
 rw [UJ]
 rcases S9 hn p hp with ⟨hm,hne⟩ | ⟨hpn,hrow,hw⟩
 ·obtain ⟨e1,y,hy,e2⟩:=h1 p hm
  exact ⟨by rw [e1,adt (fun e=>hne e.symm),ao3],y,arK _ hy,e2⟩
 ·refine ⟨?_,x,by simp,hpn,hrow⟩
  rw [adA hpn.symm]
  rcases hw with ⟨q,hq,Le,e⟩ | ⟨hno,e⟩
  ·rw [e,(h1 q hq).1,Le,hpn]
  ·rw [e]
   have:jV p.1 L=[]:=by
    rw [au7]
    intro w hw
    obtain ⟨y,hy,e2,_⟩:=lg.1 hw
    have:p.1∈m.map (·.1):=(h2 _).2 ⟨y,hy,e2⟩
    obtain ⟨q,hq,e3⟩:=adE.1 this
    exact hno q hq (e3.trans hpn)
   rw [this]; rfl
def rE (L:bD):Prop:=∀ x∈L,∀ y∈L,rowB x.1=rowB y.1→x.1=y.1
theorem rF {L:bD} (hi:rE L) (q:ByteArray × Ans):q∈eF (bQ L)↔∃ x∈L,q=(rowB x.1,⟨x.1,bC (jV (rowB x.1) L)⟩)∧(bC (jV (rowB x.1) L)).length≠0:=by
 obtain ⟨h1,h2⟩:=xM L
 simp only [eF,anp]
 constructor
 ·rintro ⟨p,hp,hc⟩
  obtain ⟨e1,x,hx,e2,e3⟩:=h1 p hp
  unfold oq at hc
  rw [e1,e2,e3] at hc
  split at hc
  ·cases hc
  ·rename_i hne; cases hc; exact ⟨x,hx,rfl,hne⟩
 ·rintro ⟨x,hx,rfl,hne⟩
  obtain ⟨p,hp,e⟩:=adE.1 ((h2 (rowB x.1)).2 ⟨x,hx,rfl⟩)
  obtain ⟨e1,y,hy,e2,e3⟩:=h1 p hp
  have exy:y.1=x.1:=hi y hy x hx (by rw [← e2,e])
  refine ⟨p,hp,?_⟩
  unfold oq
  rw [e1,e,e3,exy,adt hne]
theorem zZ {m:AM} (h:(m.map (·.1)).Nodup):((eF m).map (·.1)).Nodup:=by
 have:=GK (D:=m.map (·.1)) h
 rwa [Lj (fun p hp=>adE.2 ⟨p,hp,rfl⟩)] at this
theorem GV {α β:Type} {f:α→β} {l:List α} (h:(l.map f).Nodup):l.Nodup:=by
 simp only [ar4,ap0] at h ⊢
 exact h.imp fun h e=>h (by rw [e])
theorem xk {L M:bD} (h:L.Perm M) (n:ByteArray):bC (jV n L)=bC (jV n M):=
 abn fun w=>by simp only [lg]; exact ⟨fun ⟨x,hx,r⟩=>⟨x,h.mem_iff.1 hx,r⟩,fun ⟨x,hx,r⟩=>⟨x,h.mem_iff.2 hx,r⟩⟩
theorem rE.perm {L M:bD} (h:L.Perm M) (hi:rE L):rE M:=fun x hx y hy=>hi x (h.mem_iff.2 hx) y (h.mem_iff.2 hy)
theorem I7 {L M:bD} (h:L.Perm M) (hi:rE L):(eF (bQ L)).Perm (eF (bQ M)):=by
 refine (List.perm_ext_iff_of_nodup (GV (zZ (jB L))) (GV (zZ (jB M)))).2 fun q=>?_
 rw [rF hi,rF (hi.perm h)]
 constructor
 ·rintro ⟨x,hx,h1,h2⟩
  rw [xk h] at h1 h2
  exact ⟨x,h.mem_iff.1 hx,h1,h2⟩
 ·rintro ⟨x,hx,h1,h2⟩
  rw [← xk h] at h1 h2
  exact ⟨x,h.mem_iff.2 hx,h1,h2⟩
theorem I8 (L:bD):kP (bQ L)↔(∀ x∈L,(bC (jV (rowB x.1) L)).length≤400)∧(eF (bQ L)).length≤1000:=by
 obtain ⟨h1,h2⟩:=xM L
 unfold kP
 refine and_congr ⟨fun h x hx=>?_,fun h p hp=>?_⟩ Iff.rfl
 ·obtain ⟨p,hp,e⟩:=adE.1 ((h2 (rowB x.1)).2 ⟨x,hx,rfl⟩)
  have:=h p hp
  rw [(h1 p hp).1,e] at this; exact this
 ·obtain ⟨e1,x,hx,e2,_⟩:=h1 p hp
  rw [e1,e2]; exact h x hx
theorem GX {L M:bD} (h:L.Perm M) (hi:rE L):kP (bQ L)↔kP (bQ M):=by
 rw [I8,I8,(I7 h hi).length_eq]
 refine and_congr ⟨fun h1 x hx=>?_,fun h1 x hx=>?_⟩ Iff.rfl
 ·rw [← xk h]; exact h1 x (h.mem_iff.2 hx)
 ·rw [xk h]; exact h1 x (h.mem_iff.1 hx)
def dV (row:List V):Prop:=∀ v∈row,dI v=true
def vY (n:Nat) (w:W):Prop:=(∀ x∈w.pos,0≤x∧x<n)∧∀ x∈w.neg,0≤x∧x<n
def y7 (w:W):Prop:=w.pos.Pairwise (· < ·)∧w.neg.Pairwise (· < ·)
structure fF (n c:Nat) (m:AM):Prop where
 nodup:(m.map (·.1)).Nodup
 len:m.length≤1000
 name:∀ q∈m,q.1=rowB q.2.row
 valid:∀ q∈m,dV q.2.row
 width:∀ q∈m,q.2.row.length=c
 few:∀ q∈m,q.2.ways.length≤400
 some:∀ q∈m,q.2.ways≠[]
 yC:∀ q∈m,∀ w∈q.2.ways,vY n w
 min:∀ q∈m,bC q.2.ways=q.2.ways
structure Adds (n c:Nat) (L:bD):Prop where
 valid:∀ x∈L,dV x.1
 width:∀ x∈L,x.1.length=c
 yC:∀ x∈L,∀ w∈x.2,vY n w
 qh:∀ x∈L,∀ w∈x.2,y7 w
 sum:sumW L≤500000000000
theorem acJ {n:Nat} {w:W} (h:vY n w):vY n (iQ w):=⟨fun x hx=>h.1 x ((sZ x _).1 hx),fun x hx=>h.2 x ((sZ x _).1 hx)⟩
theorem NQ {n:Nat} {l:List W} (h:∀ w∈l,vY n w):∀ w∈bC l,vY n w:=by
 intro w hw
 obtain ⟨y,hy,rfl⟩:=zX hw
 exact acJ (h y hy)
theorem acK {n:Nat} {x y:W} (hx:vY n x) (hy:vY n y):vY n (nT x y):=
 ⟨fun z hz=>(agh.1 hz).elim (hx.1 z) (hy.1 z),fun z hz=>(agh.1 hz).elim (hx.2 z) (hy.2 z)⟩
theorem Tc {n:Nat} {a b:List W} (ha:∀ w∈a,vY n w) (hb:∀ w∈b,vY n w):∀ w∈dS a b,vY n w:=by
 intro w hw
 simp only [dS,afZ,adE] at hw
 obtain ⟨x,hx,y,hy,rfl⟩:=hw
 exact acK (ha x hx) (hb y hy)
theorem Lr {n:Nat}:∀ (l:List Int) (a:Int),l.Pairwise (· < ·)→(∀ x∈l,a≤x∧x<n)→(l.length:Int)≤(n:Int) - a∨l=[]
 | [],_,_,_=>.inr rfl
 | x::l,a,h,hx=>by
  rw [aqy] at h
  have h1:=hx x (aeC ..)
  rcases Lr l (x+1) h.2 (fun y hy=>⟨by have:=h.1 y hy; omega,(hx y (aej _ hy)).2⟩) with h2 | rfl
  ·left; simp only [afM]; omega
  ·left; simp only [afM,agq]; omega
theorem Ba {n:Nat} {l:List Int} (h:l.Pairwise (· < ·)) (hx:∀ x∈l,0≤x∧x<n):l.length≤n:=by
 rcases Lr l 0 h hx with h1 | rfl
 ·omega
 ·simp
theorem xq {l:List W} {w:W} (h:w∈bC l):w.pos.Pairwise (· < ·)∧w.neg.Pairwise (· < ·):=by
 obtain ⟨y,_,rfl⟩:=zX h
 exact ⟨rZ _,rZ _⟩
theorem fF.lens {n c:Nat} {m:AM} (h:fF n c m) (hn:n≤1000000):GR m:=by
 refine fun q hq=>⟨h.few q hq,fun w hw=>?_⟩
 have hi:=h.yC q hq w hw
 rw [← h.min q hq] at hw
 obtain ⟨h1,h2⟩:=xq hw
 have a:=Ba h1 hi.1; have b:=Ba h2 hi.2
 exact ⟨by omega,by omega⟩
theorem fF.qh {n c:Nat} {m:AM} (h:fF n c m):∀ q∈m,∀ w∈q.2.ways,y7 w:=fun q hq w hw=>by
 rw [← h.min q hq] at hw; exact xq hw
theorem acL (row:List V) (c:Nat) (h:∀ v∈row,(bytes (bU v)).length+1≤c):(iO row).length≤c * row.length:=by
 induction row with
 | nil=>simp [iO]
 | cons v l ih=>
  have h1:=h v (aeC ..)
  have h2:=ih fun u hu=>h u (aej _ hu)
  have:iO (v::l)=bytes (bU v)++[32]++iO l:=rfl
  rw [this]
  simp only [aec,afM,agq,Nat.mul_add,ap2]; omega
theorem acM (l:List UInt8):(bf l).length≤2 * l.length:=by
 induction l with
 | nil=>simp [bf]
 | cons c l ih=>
  have:bf (c::l)=iL c++bf l:=rfl
  rw [this,aec,afM]
  have:(iL c).length≤2:=by unfold iL; repeat' split
                           all_goals simp
  omega
theorem OI {v:V} (h:dI v=true):(bytes (bU v)).length+1≤404:=by
 have hn:=VB h
 unfold bU
 rw [h]
 simp only [asw,aj9,ajs]
 split
 ·rename_i hk
  have ht:v.text.size≤200:=by
   unfold dI at h
   simp [hk] at h
   exact h.1
  have:=acM (bytes v.text)
  have hb:(bytes v.text).length=v.text.size:=Array.length_toList
  simp only [qG,bytes,afM,aec,agq] at this hb ⊢
  omega
 ·split
  ·have:=avD v.n (by omega) (by omega)
   simp only [bytes]; omega
  ·split
   ·have:=avD v.n (by omega) (by omega)
    simp only [bytes,afM]; omega
   ·split
    ·have:(asR (v.n == 1)).length≤5:=by cases (v.n == 1) <;> decide
     simp only [bytes]; omega
    ·simp [bytes]
theorem Td {row:List V} (h:dV row) (hl:row.length≤200000000):Xz row:=by
 refine ⟨by omega,?_⟩
 have:=acL row 404 fun v hv=>OI (h v hv)
 omega
theorem Adds.ok {n c:Nat} {L:bD} (h:Adds n c L) (hc:c≤200000000):okD L:=⟨fun x hx=>Td (h.valid x hx) (by rw [h.width x hx]; exact hc),h.sum⟩
theorem Adds.perm {n c:Nat} {L M:bD} (p:L.Perm M) (h:Adds n c L):Adds n c M:=⟨fun x hx=>h.valid x (p.mem_iff.2 hx),fun x hx=>h.width x (p.mem_iff.2 hx),fun x hx=>h.yC x (p.mem_iff.2 hx),fun x hx=>h.qh x (p.mem_iff.2 hx),by rw [← OG p]; exact h.sum⟩
theorem Adds.zJ {n c:Nat} {L:bD} (h:Adds n c L) (hn:n≤1000000):∀ p∈bQ L,zJ p.2.ways:=by
 intro p hp
 refine ⟨by have:=OH L p hp; have:=h.sum; omega,fun w hw=>?_⟩
 rw [((xM L).1 p hp).1] at hw
 obtain ⟨x,hx,_,hw⟩:=lg.1 hw
 have h1:=h.yC x hx w hw; have h2:=h.qh x hx w hw
 have a:=Ba h2.1 h1.1; have b:=Ba h2.2 h1.2
 exact ⟨by omega,by omega⟩
theorem Adds.clo {n c:Nat} {L:bD} (h:Adds n c L) (ho:kP (bQ L)):fF n c (eF (bQ L)):=by
 obtain ⟨h1,h2⟩:=xM L
 have hm:∀ q∈eF (bQ L),∃ p∈bQ L,∃ x∈L,q=(rowB x.1,⟨x.1,bC p.2.ways⟩)∧p.2.ways=jV p.1 L∧(bC p.2.ways).length≠0:=by
  intro q hq
  obtain ⟨p,hp,hc⟩:=anp.1 hq
  obtain ⟨e1,x,hx,e2,e3⟩:=h1 p hp
  unfold oq at hc
  split at hc
  ·cases hc
  ·rename_i hne; cases hc; exact ⟨p,hp,x,hx,by rw [e2,e3],e1,hne⟩
 refine ⟨zZ (jB L),ho.2,fun q hq=>?_,fun q hq=>?_,fun q hq=>?_,fun q hq=>?_,fun q hq=>?_,fun q hq=>?_,fun q hq=>?_⟩
 all_goals obtain ⟨p,hp,x,hx,rfl,e1,hne⟩:=hm q hq
 ·rfl
 ·exact h.valid x hx
 ·exact h.width x hx
 ·exact ho.1 p hp
 ·intro e
  have e:bC p.2.ways=[]:=e
  exact hne (by rw [e]; rfl)
 ·refine NQ fun w hw=>?_
  rw [e1] at hw
  obtain ⟨y,hy,_,h3⟩:=lg.1 hw
  exact h.yC y hy w h3
 ·exact YQ _
def kQ (t:Int) (facts:List bF):bD:=facts.zipIdx.flatMap fun q=>if q.1.table=t then [(q.1.row,[⟨[(q.2:Int)],[]⟩])] else []
def bY (p:Plan) (facts:List bF) (ms:List AM):Option bD:=
 if p.kind=1 then some (kQ p.table facts) else match p.kids,ms with
 | [_],[m]=>if p.kind=2 then some (m.flatMap (nH p)) else if p.kind=3 then some (m.flatMap (qj p)) else some (gq m)
 | [k0,k1],[m1,m2]=>if p.kind=4 then some (m1.flatMap fun q=>m2.flatMap (iq k0.attrs k1.attrs q)) else if p.kind=5 then some (gq m1++gq m2)
   else if m1.all fun q=>(fD m2 q).isSome then some (m1.flatMap (jU m2)) else none
 | _,_=>none
def Bc (facts:List bF):Nat→Plan→AM→Prop
 | 0,_,_=>False
 | n+1,p,m=>∃ ms:List AM,ms.length=p.kids.length∧(∀ i (h:i<p.kids.length) (h2:i<ms.length),Bc facts n p.kids[i] ms[i])∧∃ L0 L,bY p facts ms=some L0∧L.Perm L0∧kP (bQ L)∧m=eF (bQ L)
def OJ (facts:List bF):Nat→Plan→Prop
 | 0,_=>False
 | n+1,p=>(∃ i,∃ h:i<p.kids.length,OJ facts n p.kids[i])∨∃ ms:List AM,ms.length=p.kids.length∧(∀ i (h:i<p.kids.length) (h2:i<ms.length),Bc facts n p.kids[i] ms[i]) ∧
   (bY p facts ms=none∨∃ L0 L,bY p facts ms=some L0∧L.Perm L0∧¬ kP (bQ L))
def iT (tl:List bH) (facts:List bF):Prop:=facts.length≤4000∧∀ f∈facts,0≤f.table∧∃ h:f.table.toNat<tl.length,fitsV (tl[f.table.toNat]).attrs f.row=true
inductive Shape (tl:List bH) (n:Nat) (p:Plan):Prop
 | table (hk:p.kind=1) (hks:p.kids=[]) (h0:0≤p.table) (h1:p.table.toNat<tl.length) (hl:p.attrs.length=(tl[p.table.toNat]).attrs.length)
 | sel (hk:p.kind=2) (q:Plan) (hks:p.kids=[q]) (hq:aV n tl q=true) (hs:Gp p q=true) (hl:p.attrs.length=q.attrs.length)
 | proj (hk:p.kind=3) (q:Plan) (hks:p.kids=[q]) (hq:aV n tl q=true) (hc:∀ c∈p.cols,0≤c∧c.toNat<q.attrs.length) (hl:p.attrs.length=p.cols.length)
 | join (hk:p.kind=4) (q r:Plan) (hks:p.kids=[q,r]) (hq:aV n tl q=true) (hr:aV n tl r=true) (hn:(q.attrs.map (·.name)).Nodup) (hl:∃ l,nS q.attrs q.attrs r.attrs=some l∧p.attrs.length=l.length)
 | union (hk:p.kind=5) (q r:Plan) (hks:p.kids=[q,r]) (hq:aV n tl q=true) (hr:aV n tl r=true) (hl:p.attrs.length=q.attrs.length) (hl2:p.attrs.length=r.attrs.length)
 | minus (hk:p.kind=6) (q r:Plan) (hks:p.kids=[q,r]) (hq:aV n tl q=true) (hr:aV n tl r=true) (hl:p.attrs.length=q.attrs.length) (hl2:p.attrs.length=r.attrs.length)
 | ren (hk:p.kind=7) (q:Plan) (hks:p.kids=[q]) (hq:aV n tl q=true) (hl:p.attrs.length=q.attrs.length)
theorem Ez {a b:List Attr} (h:og a b=true):a.length=b.length:=by
 unfold og at h; simp at h; exact h.1
theorem OL {α:Type} (l:List α):∀ (cs:List Int) (out:List α),dR l cs=some out→∀ c∈cs,0≤c∧c.toNat<l.length
 | [],_,_,c,hc=>by simp at hc
 | x::cs,out,h,c,hc=>by
  simp only [dR] at h
  split at h
  ·rename_i hx
   rcases agB.1 hc with rfl | hc
   ·exact hx
   ·cases e:dR l cs with
    | none=>simp [e] at h
    | some o=>exact OL l cs o e c hc
  ·cases h
theorem Ij (a b:ByteArray):eqS a b=true↔a=b:=by
 unfold eqS
 rw [aqc]
 constructor
 ·intro h
  have:a.data.toList=b.data.toList:=by
   have h1:∀ c:ByteArray,c.toList=c.data.toList:=fun c=>ByteArray.toList_eq c
   rw [← h1,← h1,h]
  cases a; cases b; congr 1; exact Array.toList_inj.1 this
 ·rintro rfl; rfl
theorem Tf {l:List Attr} (h:Dn l=true):(l.map (·.name)).Nodup:=by
 unfold Dn at h
 rw [afX] at h
 rw [ar4,ap0,agc]
 intro i j hi hj hij e
 have h1:=h (l[j],j) (by rw [axo]; exact ⟨j,by simpa using hj,by simp⟩)
 simp only [aqp] at h1
 have h2:kX l l[j].name≤(i:Int):=by
  unfold kX jJ
  cases hf:l.findIdx? (fun t=>eqS t.name l[j].name) with
  | none=>simp <;> omega
  | some k=>
   rw [apB] at hf
   obtain ⟨hk,_,hmin⟩:=hf
   simp only
   rcases apf i k with hlt | hge
   ·have:=hmin i hlt
    rw [(Ij _ _).2 e] at this; simp at this
   ·omega
 omega
theorem lM {α:Type}:∀ {l:List α},l.length=2→∃ q r,l=[q,r]
 | [q,r],_=>⟨q,r,rfl⟩
theorem kF {tl:List bH} {n:Nat} {p:Plan} (h:aV (n+1) tl p=true) (h8:p.kind≠8):Shape tl n p:=by
 simp only [aV,af5,aqp] at h
 obtain ⟨⟨⟨⟨hk,hks⟩,_⟩,_⟩,hw⟩:=h
 rw [afX] at hks
 cases jm:jw tl p with
 | none=>rw [jm] at hw; cases hw
 | some l=>
  rw [jm] at hw
  have hl:=Ez hw
  unfold jw at jm
  unfold Gs at hk
  by_cases h1:p.kind=1
  ·simp only [h1,aiq,ad2] at hk
   rw [adA h1] at jm
   unfold uj at jm
   split at jm
   ·rename_i hc
    cases jm
    refine .table h1 (ai9.1 hk.symm) hc.1 hc.2 ?_
    rw [← hl]; simp [Ju]
   ·cases jm
  rw [adt h1] at jm hk
  by_cases h4:p.kind=4∨p.kind=5∨p.kind=6
  ·have hk2:p.kids.length=2:=by
    rcases h4 with h | h | h <;> simp [h] at hk <;> omega
   obtain ⟨q,r,hqr⟩:=lM hk2
   have hq:=hks q (by rw [hqr]; simp)
   have hr:=hks r (by rw [hqr]; simp)
   rw [hqr] at jm
   simp only at jm
   rcases h4 with h | h | h
   ·rw [adA h] at jm
    refine .join h q r hqr hq hr ?_ ⟨l,jm,hl.symm⟩
    cases n with
    | zero=>simp [aV] at hq
    | succ n=>
     simp only [aV,af5] at hq
     exact Tf hq.1.2
   ·rw [adt (by omega),adA (.inl h)] at jm
    unfold zL at jm
    split at jm
    ·rename_i ha; cases jm
     exact .union h q r hqr hq hr hl.symm (by rw [← hl]; exact Ez ha)
    ·cases jm
   ·rw [adt (by omega),adA (.inr h)] at jm
    unfold zL at jm
    split at jm
    ·rename_i ha; cases jm
     exact .minus h q r hqr hq hr hl.symm (by rw [← hl]; exact Ez ha)
    ·cases jm
  by_cases h2:p.kind=2∨p.kind=3∨p.kind=7
  ·have hk2:p.kids.length=1:=by
    rcases h2 with h | h | h <;> simp [h] at hk <;> omega
   obtain ⟨q,hqr⟩:=agj.1 hk2
   have hq:=hks q (by rw [hqr]; simp)
   rw [hqr] at jm
   simp only at jm
   rcases h2 with h | h | h
   ·rw [adA h] at jm
    unfold zL at jm
    split at jm
    ·rename_i ha; cases jm
     exact .sel h q hqr hq ha hl.symm
    ·cases jm
   ·rw [adt (by omega),adA h] at jm
    exact .proj h q hqr hq (OL _ _ _ jm) (by rw [← hl]; exact ug _ _ _ jm)
   ·rw [adt (by omega),adt (by omega),adA h] at jm
    unfold uh at jm
    split at jm
    ·rename_i hc; cases jm
     exact .ren h q hqr hq hc.2
    ·cases jm
  ·exfalso
   have:¬ (p.kind=2∨p.kind=3∨p.kind=4∨p.kind=5∨p.kind=6∨p.kind=7∨p.kind=8):=by omega
   rw [adt (by omega),adt (by omega),adt (by omega),adt (by omega),adt (by omega),adt (by omega),adt h8] at hk
   cases hk
theorem Ls {l:List Attr} {row:List V} (h:fitsV l row=true):row.length=l.length∧dV row:=by
 unfold fitsV at h
 simp only [af5,aqp] at h
 refine ⟨h.1,fun v hv=>?_⟩
 obtain ⟨i,hi,rfl⟩:=af2 hv
 have:=(afX.1 h.2) (l[i]'(by omega),row[i]) (by rw [axo]; exact ⟨i,by simp; omega,by simp⟩)
 unfold BX at this
 simp only [af5] at this
 exact this.1
theorem pW {α:Type} (c:Nat) (g:α→bD):∀ (l:List α),(∀ x∈l,sumW (g x)≤c)→sumW (l.flatMap g)≤c * l.length
 | [],_=>by simp [sumW]
 | x::l,h=>by
  have h1:=h x (aeC ..)
  have h2:=pW c g l fun y hy=>h y (aej _ hy)
  rw [aqo,JF,afM,Nat.mul_add,ap2]; omega
theorem tu (row:List V) (l:List W):sumW [(row,l)]=l.length:=by simp [sumW]
theorem XA {tl:List bH} {facts:List bF} (hf:iT tl facts) {t:Int} (h0:0≤t) (h1:t.toNat<tl.length):Adds facts.length (tl[t.toNat]).attrs.length (kQ t facts):=by
 have hm:∀ x∈kQ t facts,∃ i,∃ h:i<facts.length,facts[i].table=t∧x=(facts[i].row,[⟨[(i:Int)],[]⟩]):=by
  intro x hx
  simp only [kQ,afZ] at hx
  obtain ⟨⟨f,i⟩,hq,hx⟩:=hx
  split at hx
  ·rename_i e
   obtain ⟨hi,hfi⟩:=awl hq
   exact ⟨i,hi,by rw [← hfi]; exact e,by rw [← hfi]; simpa using hx⟩
  ·simp at hx
 have hrow:∀ i (h:i<facts.length),facts[i].table=t→facts[i].row.length=(tl[t.toNat]).attrs.length∧dV facts[i].row:=by
  intro i h e
  obtain ⟨_,h3,h4⟩:=hf.2 facts[i] (aaO h)
  have:=Ls h4
  simp only [e] at this
  exact this
 refine ⟨fun x hx=>?_,fun x hx=>?_,fun x hx w hw=>?_,fun x hx w hw=>?_,?_⟩
 ·obtain ⟨i,hi,e,rfl⟩:=hm x hx; exact (hrow i hi e).2
 ·obtain ⟨i,hi,e,rfl⟩:=hm x hx; exact (hrow i hi e).1
 ·obtain ⟨i,hi,e,rfl⟩:=hm x hx
  rw [adJ.1 hw]
  exact ⟨fun z hz=>by rw [adJ.1 hz]; omega,fun z hz=>by simp at hz⟩
 ·obtain ⟨i,hi,e,rfl⟩:=hm x hx
  rw [adJ.1 hw]
  exact ⟨by simp,by simp⟩
 ·have:=pW 1 (fun q:bF × Nat=>if q.1.table=t then [(q.1.row,[(⟨[(q.2:Int)],[]⟩:W)])] else []) facts.zipIdx (fun q _=>by by_cases h:q.1.table=t <;> simp [h,sumW])
  have hl:=hf.1
  simp only [avF] at this
  unfold kQ; omega
theorem JI {n c:Nat} {m:AM} (h:fF n c m):Adds n c (gq m):=by
 refine ⟨fun x hx=>?_,fun x hx=>?_,fun x hx=>?_,fun x hx=>?_,?_⟩
 ·obtain ⟨q,hq,hx⟩:=afZ.1 hx
  rw [adJ.1 hx]; exact h.valid q hq
 ·obtain ⟨q,hq,hx⟩:=afZ.1 hx
  rw [adJ.1 hx]; exact h.width q hq
 ·obtain ⟨q,hq,hx⟩:=afZ.1 hx
  rw [adJ.1 hx]; exact h.yC q hq
 ·obtain ⟨q,hq,hx⟩:=afZ.1 hx
  rw [adJ.1 hx]; exact h.qh q hq
 ·have:sumW (gq m)≤400 * m.length:=pW 400 add1 m fun q hq=>by rw [tu]; exact h.few q hq
  have:=h.len; omega
theorem acN {n c:Nat} {L M:bD} (h1:∀ x∈L,dV x.1∧x.1.length=c∧(∀ w∈x.2,vY n w)∧∀ w∈x.2,y7 w) (h2:∀ x∈M,dV x.1∧x.1.length=c∧(∀ w∈x.2,vY n w)∧∀ w∈x.2,y7 w) (hs:sumW L+sumW M≤500000000000):Adds n c (L++M):=
 ⟨fun x hx=>(agh.1 hx).elim (fun h=>(h1 x h).1) (fun h=>(h2 x h).1),fun x hx=>(agh.1 hx).elim (fun h=>(h1 x h).2.1) (fun h=>(h2 x h).2.1),fun x hx=>(agh.1 hx).elim (fun h=>(h1 x h).2.2.1) (fun h=>(h2 x h).2.2.1),fun x hx=>(agh.1 hx).elim (fun h=>(h1 x h).2.2.2) (fun h=>(h2 x h).2.2.2),by rw [JF]; exact hs⟩
theorem XB {n c:Nat} {m1 m2:AM} (h1:fF n c m1) (h2:fF n c m2):Adds n c (gq m1++gq m2):=by
 have a:=JI h1; have b:=JI h2
 refine acN (fun x hx=>⟨a.valid x hx,a.width x hx,a.yC x hx,a.qh x hx⟩) (fun x hx=>⟨b.valid x hx,b.width x hx,b.yC x hx,b.qh x hx⟩) ?_
 have s1:sumW (gq m1)≤400 * m1.length:=pW 400 add1 m1 fun q hq=>by rw [tu]; exact h1.few q hq
 have s2:sumW (gq m2)≤400 * m2.length:=pW 400 add1 m2 fun q hq=>by rw [tu]; exact h2.few q hq
 have:=h1.len; have:=h2.len; omega
theorem acO {n c:Nat} {m:AM} (p:Plan) (h:fF n c m):Adds n c (m.flatMap (nH p)):=by
 have hm:∀ x∈m.flatMap (nH p),∃ q∈m,x=(q.2.row,q.2.ways):=by
  intro x hx
  obtain ⟨q,hq,hx⟩:=afZ.1 hx
  unfold nH at hx
  split at hx
  ·simp at hx
  ·exact ⟨q,hq,adJ.1 hx⟩
 refine ⟨fun x hx=>?_,fun x hx=>?_,fun x hx=>?_,fun x hx=>?_,?_⟩
 ·obtain ⟨q,hq,rfl⟩:=hm x hx; exact h.valid q hq
 ·obtain ⟨q,hq,rfl⟩:=hm x hx; exact h.width q hq
 ·obtain ⟨q,hq,rfl⟩:=hm x hx; exact h.yC q hq
 ·obtain ⟨q,hq,rfl⟩:=hm x hx; exact h.qh q hq
 ·have:=pW 400 (nH p) m fun q hq=>by
   unfold nH
   split
   ·simp [sumW]
   ·rw [tu]; exact h.few q hq
  have:=h.len; omega
theorem ZW {n c:Nat} {m:AM} (p:Plan) (h:fF n c m) (hc:∀ x∈p.cols,0≤x∧x.toNat<c):Adds n p.cols.length (m.flatMap (qj p)):=by
 have hm:∀ x∈m.flatMap (qj p),∃ q∈m,x=(aS q.2.row p.cols,q.2.ways):=by
  intro x hx
  obtain ⟨q,hq,hx⟩:=afZ.1 hx
  exact ⟨q,hq,adJ.1 hx⟩
 refine ⟨fun x hx=>?_,fun x hx=>?_,fun x hx=>?_,fun x hx=>?_,?_⟩
 ·obtain ⟨q,hq,rfl⟩:=hm x hx
  intro v hv
  obtain ⟨y,hy,rfl⟩:=adE.1 hv
  have h1:=(hc y hy).2
  have hw:=h.width q hq
  have:q.2.row.getD y.toNat V.zero=q.2.row[y.toNat]:=by simp [hw,h1]
  rw [this]
  exact h.valid q hq _ (aaO (by omega))
 ·obtain ⟨q,hq,rfl⟩:=hm x hx; simp [aS]
 ·obtain ⟨q,hq,rfl⟩:=hm x hx; exact h.yC q hq
 ·obtain ⟨q,hq,rfl⟩:=hm x hx; exact h.qh q hq
 ·have:=pW 400 (qj p) m fun q hq=>by rw [qj,tu]; exact h.few q hq
  have:=h.len; omega
theorem Lu:∀ (ys l l':List W),dJ l ys=some l'→l.length≤400→l'.length≤400
 | [],l,l',h,h4=>by simp only [dJ,ad2] at h; subst h; exact h4
 | y::ys,l,l',h,h4=>by
  simp only [dJ] at h
  split at h
  ·rename_i h1; exact Lu ys _ l' h h1
  ·cases h
theorem OM {n:Nat}:∀ (ys l l':List W),dJ l ys=some l'→(∀ w∈l,vY n w)→(∀ w∈ys,vY n w)→∀ w∈l',vY n w
 | [],l,l',h,hl,_=>by simp only [dJ,ad2] at h; subst h; exact hl
 | y::ys,l,l',h,hl,hy=>by
  simp only [dJ] at h
  split at h
  ·refine OM ys _ l' h (NQ (Tc hl fun w hw=>?_)) fun w hw=>hy w (aej _ hw)
   have hyy:=hy y (aeC ..)
   simp only [l7,agh,adE] at hw
   rcases hw with ⟨v,hv,rfl⟩ | ⟨v,hv,rfl⟩
   ·exact ⟨fun z hz=>by simp [lK] at hz,fun z hz=>by simp [lK] at hz; subst hz; exact hyy.1 _ hv⟩
   ·exact ⟨fun z hz=>by simp [oz] at hz; subst hz; exact hyy.2 _ hv,fun z hz=>by simp [oz] at hz⟩
  ·cases h
theorem LC:∀ (ys l l':List W),dJ l ys=some l'→(∀ w∈l,y7 w)→∀ w∈l',y7 w
 | [],l,l',h,hl=>by simp only [dJ,ad2] at h; subst h; exact hl
 | y::ys,l,l',h,hl=>by
  simp only [dJ] at h
  split at h
  ·exact LC ys _ l' h fun w hw=>xq hw
  ·cases h
theorem GY {m:AM} {x:ByteArray} {l:List W} (h:ni x m=some l):∃ q∈m,q.1=x∧q.2.ways=l:=by
 induction m with
 | nil=>cases h
 | cons q m ih=>
  obtain ⟨y,a⟩:=q
  simp only [ni] at h
  split at h
  ·rename_i e; cases h; exact ⟨(y,a),aeC ..,e,rfl⟩
  ·obtain ⟨q,hq,h2⟩:=ih h; exact ⟨q,aej _ hq,h2⟩
theorem OO {n c d:Nat} {m1 m2:AM} (h1:fF n c m1) (h2:fF n d m2) {q:ByteArray × Ans} (hq:q∈m1):((fD m2 q).getD []).length≤400∧∀ w∈(fD m2 q).getD [],vY n w:=by
 cases e:fD m2 q with
 | none=>simp
 | some l=>
  unfold fD at e
  refine ⟨Lu _ _ _ e (h1.few q hq),OM _ _ _ e (h1.yC q hq) fun w hw=>?_⟩
  cases e2:ni q.1 m2 with
  | none=>rw [e2] at hw; simp at hw
  | some l2=>
   rw [e2] at hw
   obtain ⟨q2,hq2,_,rfl⟩:=GY e2
   exact h2.yC q2 hq2 w hw
theorem LD {n c d:Nat} {m1 m2:AM} (h1:fF n c m1) (h2:fF n d m2):Adds n c (m1.flatMap (jU m2)):=by
 have hm:∀ x∈m1.flatMap (jU m2),∃ q∈m1,x=(q.2.row,(fD m2 q).getD []):=by
  intro x hx
  obtain ⟨q,hq,hx⟩:=afZ.1 hx
  exact ⟨q,hq,adJ.1 hx⟩
 refine ⟨fun x hx=>?_,fun x hx=>?_,fun x hx=>?_,fun x hx=>?_,?_⟩
 ·obtain ⟨q,hq,rfl⟩:=hm x hx; exact h1.valid q hq
 ·obtain ⟨q,hq,rfl⟩:=hm x hx; exact h1.width q hq
 ·obtain ⟨q,hq,rfl⟩:=hm x hx; exact (OO h1 h2 hq).2
 ·obtain ⟨q,hq,rfl⟩:=hm x hx
  cases e:fD m2 q with
  | none=>simp
  | some l=>exact LC _ _ _ e (h1.qh q hq)
 ·have:=pW 400 (jU m2) m1 fun q hq=>by rw [jU,tu]; exact (OO h1 h2 hq).1
  have:=h1.len; omega
theorem Cc {la:List Attr} {x:List V} (hx:x.length=la.length):∀ (bs:List Attr) (ys:List V) (out out':List V) (o l:List Attr),ys.length=bs.length→gV la x (bs.zip ys) out=some out'→nS la o bs=some l→out.length=o.length→out'.length=l.length
 | [],[],out,out',o,l,_,h,hj,e=>by simp [gV] at h; simp [nS] at hj; subst h; subst hj; exact e
 | b::bs,y::ys,out,out',o,l,hy,h,hj,e=>by
  simp only [List.zip_cons_cons,gV] at h
  simp only [nS] at hj
  have hfind:(jC la b.name=none↔kX la b.name<0):=by
   unfold jC kX jJ
   have:(fun a:Attr=>decide (a.name=b.name))=fun t=>eqS t.name b.name:=by
    funext a
    by_cases h:a.name=b.name
    ·simp [h,(Ij b.name b.name).2 rfl]
    ·have:eqS a.name b.name=false:=by
      cases h2:eqS a.name b.name with
      | false=>rfl
      | true=>exact (h ((Ij _ _).1 h2)).elim
     simp [h,this]
   rw [this]
   cases la.findIdx? (fun t=>eqS t.name b.name) with
   | none=>simp
   | some i=>simp <;> omega
  cases hf:jC la b.name with
  | none=>
   rw [hf] at h
   rw [adA (hfind.1 hf)] at hj
   exact Cc hx bs ys _ out' _ l (by simpa using hy) h hj (by simp [e])
  | some k=>
   rw [hf] at h
   have hc:¬ kX la b.name<0:=fun hc=>by rw [hfind.2 hc] at hf; cases hf
   rw [adt hc] at hj
   split at hj
   ·cases hj
   ·simp only at h
    split at h
    ·exact Cc hx bs ys _ out' _ l (by simpa using hy) h hj e
    ·cases h
theorem Ce {la:List Attr} {x:List V}:∀ (l:List (Attr × V)) (out out':List V),gV la x l out=some out'→dV out→(∀ p∈l,dI p.2=true)→dV out'
 | [],out,out',h,ho,_=>by simp [gV] at h; subst h; exact ho
 | (a,v)::l,out,out',h,ho,hl=>by
  have hl2:=fun p hp=>hl p (aej _ hp)
  simp only [gV] at h
  split at h
  ·split at h
   ·exact Ce l out out' h ho hl2
   ·cases h
  ·refine Ce l _ out' h (fun u hu=>?_) hl2
   rcases agh.1 hu with hu | hu
   ·exact ho u hu
   ·rw [adJ.1 hu]; exact hl (a,v) (aeC ..)
theorem OQ {α:Type} (c:α→α→Int) (x:α):∀ l:List α,(vG c x l).length≤l.length+1
 | []=>by simp [vG]
 | y::l=>by
  have:=OQ c x l
  simp only [vG]
  repeat' split
  all_goals simp <;> omega
theorem LG {α:Type} (c:α→α→Int):∀ l:List α,(nY c l).length≤l.length
 | []=>by simp [nY]
 | x::l=>by
  have h1:=LG c l
  have h2:=OQ c x (nY c l)
  simp only [nY,List.foldr_cons,afM] at *; omega
theorem UK (l:List W):(bC l).length≤l.length:=
 ajk (LG _ _) (ajk (asn _ _) (Gl l))
theorem ZX {n:Nat} {la lb l:List Attr} {m1 m2:AM} (h1:fF n la.length m1) (h2:fF n lb.length m2) (hj:nS la la lb=some l):Adds n l.length (m1.flatMap fun q=>m2.flatMap (iq la lb q)):=by
 have hm:∀ x∈m1.flatMap fun q=>m2.flatMap (iq la lb q),∃ q1∈m1,∃ q2∈m2,∃ row,jk la lb q1.2.row q2.2.row=some row∧x=(row,bC (dS q1.2.ways q2.2.ways)):=by
  intro x hx
  obtain ⟨q1,hq1,hx⟩:=afZ.1 hx
  obtain ⟨q2,hq2,hx⟩:=afZ.1 hx
  unfold iq at hx
  split at hx
  ·rename_i row hr; exact ⟨q1,hq1,q2,hq2,row,hr,adJ.1 hx⟩
  ·simp at hx
 refine ⟨fun x hx=>?_,fun x hx=>?_,fun x hx=>?_,fun x hx=>?_,?_⟩
 ·obtain ⟨q1,hq1,q2,hq2,row,hr,rfl⟩:=hm x hx
  refine Ce _ _ _ hr (h1.valid q1 hq1) fun p hp=>?_
  exact h2.valid q2 hq2 p.2 (List.of_mem_zip hp).2
 ·obtain ⟨q1,hq1,q2,hq2,row,hr,rfl⟩:=hm x hx
  exact Cc (h1.width q1 hq1) lb q2.2.row _ _ _ _ (h2.width q2 hq2) hr hj (h1.width q1 hq1)
 ·obtain ⟨q1,hq1,q2,hq2,row,hr,rfl⟩:=hm x hx
  exact NQ (Tc (h1.yC q1 hq1) (h2.yC q2 hq2))
 ·obtain ⟨q1,hq1,q2,hq2,row,hr,rfl⟩:=hm x hx
  exact fun w hw=>xq hw
 ·have hin:∀ q1∈m1,sumW (m2.flatMap (iq la lb q1))≤160000000:=by
   intro q1 hq1
   have:=pW 160000 (iq la lb q1) m2 fun q2 hq2=>by
    unfold iq
    split
    ·rw [tu]
     refine ajk (UK _) ?_
     rw [AY]
     exact ajk (auz (h1.few q1 hq1) (h2.few q2 hq2)) (by decide)
    ·simp [sumW]
   have:=h2.len; omega
  have:=pW 160000000 (fun q1=>m2.flatMap (iq la lb q1)) m1 hin
  have:=h1.len; omega
theorem wQ {tl:List bH} {facts:List bF} (hf:iT tl facts) {n:Nat} {p:Plan} (hs:Shape tl n p) {ms:List AM} (hl:ms.length=p.kids.length) (hc:∀ i (h:i<p.kids.length) (h2:i<ms.length),fF facts.length p.kids[i].attrs.length ms[i]) {L:bD} (h:bY p facts ms=some L):
  Adds facts.length p.attrs.length L:=by
 unfold bY at h
 cases hs with
 | table hk hks h0 h1 hl'=>
  rw [adA hk] at h; cases h
  rw [hl']; exact XA hf h0 h1
 | sel hk q hks hq hsv hl'=>
  rw [adt (by omega),hks] at h
  rw [hks] at hl
  obtain ⟨m,rfl⟩:=agj.1 hl
  have c:=hc 0 (by rw [hks]; simp) (by simp)
  simp only [hks,agV] at c
  simp only at h
  rw [adA hk] at h; cases h
  rw [hl']; exact acO p c
 | proj hk q hks hq hcc hl'=>
  rw [adt (by omega),hks] at h
  rw [hks] at hl
  obtain ⟨m,rfl⟩:=agj.1 hl
  have c:=hc 0 (by rw [hks]; simp) (by simp)
  simp only [hks,agV] at c
  simp only at h
  rw [adt (by omega),adA hk] at h; cases h
  rw [hl']; exact ZW p c hcc
 | ren hk q hks hq hl'=>
  rw [adt (by omega),hks] at h
  rw [hks] at hl
  obtain ⟨m,rfl⟩:=agj.1 hl
  have c:=hc 0 (by rw [hks]; simp) (by simp)
  simp only [hks,agV] at c
  simp only at h
  rw [adt (by omega),adt (by omega)] at h; cases h
  rw [hl']; exact JI c
 | join hk q r hks hq hr hn hj=>
  rw [adt (by omega),hks] at h
  rw [hks] at hl
  obtain ⟨m1,m2,rfl⟩:=lM hl
  have c1:=hc 0 (by rw [hks]; simp) (by simp)
  have c2:=hc 1 (by rw [hks]; simp) (by simp)
  simp only [hks,agV,apb] at c1 c2
  simp only at h
  rw [adA hk] at h; cases h
  obtain ⟨l,hj1,hj2⟩:=hj
  rw [hj2]; exact ZX c1 c2 hj1
 | union hk q r hks hq hr hl1 hl2=>
  rw [adt (by omega),hks] at h
  rw [hks] at hl
  obtain ⟨m1,m2,rfl⟩:=lM hl
  have c1:=hc 0 (by rw [hks]; simp) (by simp)
  have c2:=hc 1 (by rw [hks]; simp) (by simp)
  simp only [hks,agV,apb] at c1 c2
  simp only at h
  rw [adt (by omega),adA hk] at h; cases h
  rw [← hl1] at c1; rw [← hl2] at c2
  exact XB c1 c2
 | minus hk q r hks hq hr hl1 hl2=>
  rw [adt (by omega),hks] at h
  rw [hks] at hl
  obtain ⟨m1,m2,rfl⟩:=lM hl
  have c1:=hc 0 (by rw [hks]; simp) (by simp)
  have c2:=hc 1 (by rw [hks]; simp) (by simp)
  simp only [hks,agV,apb] at c1 c2
  simp only at h
  rw [adt (by omega),adt (by omega)] at h
  split at h
  ·cases h
   rw [hl1]; exact LD c1 c2
  ·cases h
theorem o8 {p:Plan} (h:grp p=false):p.kind≠8∧∀ q∈p.kids,grp q=false:=by
 rw [Zh] at h
 simp only [Bool.or_eq_false_iff,apv,apY] at h
 exact ⟨h.1,fun q hq=>by simpa using h.2 q hq⟩
theorem Shape.kids {tl:List bH} {n:Nat} {p:Plan} (h:Shape tl n p):∀ q∈p.kids,aV n tl q=true:=by
 cases h with
 | table _ hks=>rw [hks]; simp
 | sel _ q hks hq=>rw [hks]; simpa using hq
 | proj _ q hks hq=>rw [hks]; simpa using hq
 | ren _ q hks hq=>rw [hks]; simpa using hq
 | join _ q r hks hq hr=>rw [hks]; simp [hq,hr]
 | union _ q r hks hq hr=>rw [hks]; simp [hq,hr]
 | minus _ q r hks hq hr=>rw [hks]; simp [hq,hr]
theorem oC {tl:List bH} {facts:List bF} (hf:iT tl facts):∀ (n:Nat) (p:Plan) (m:AM),aV n tl p=true→grp p=false→Bc facts n p m→fF facts.length p.attrs.length m
 | 0,_,_,_,_,h=>h.elim
 | n+1,p,m,hv,hg,⟨ms,hl,hk,L0,L,h0,hp,hc,hm⟩=>by
  obtain ⟨h8,hgk⟩:=o8 hg
  have hs:=kF hv h8
  have hkc:∀ i (h:i<p.kids.length) (h2:i<ms.length),fF facts.length p.kids[i].attrs.length ms[i]:=fun i h h2=>
   oC hf n _ _ (hs.kids _ (aaO h)) (hgk _ (aaO h)) (hk i h h2)
  have:=(wQ hf hs hl hkc h0).perm hp.symm
  rw [hm]; exact this.clo hc
theorem ZY {n c:Nat} {m:AM} (h:fF n c m):bQ (gq m)=m:=by
 have:∀ (l:AM),(l.map (·.1)).Nodup→(∀ q∈l,q.1=rowB q.2.row)→bQ (gq l)=l:=by
  intro l
  induction hl:l.length generalizing l with
  | zero=>intro _ _; rw [ai9.1 hl]; rfl
  | succ k ih=>
   intro hn hq
   rcases List.eq_nil_or_concat l with rfl | ⟨l',q,rfl⟩
   ·simp at hl
   ·simp only [List.concat_eq_append] at hl hn hq ⊢
    simp only [aei,ads,adG] at hn
    have hn':=ap9.1 hn
    have e:gq (l' ++ [q])=gq l' ++ [(q.2.row,q.2.ways)]:=by simp
    rw [e,GH,ih l' (by simpa using hl) hn'.1 (fun x hx=>hq x (arK _ hx))]
    have Le:=hq q (by simp)
    rw [Gx (fun x hx e2=>hn'.2.2 x.1 (adE.2 ⟨x,hx,rfl⟩) q.1 (by simp) (by rw [e2]; exact Le.symm))]
    rw [← Le]
 exact this m h.nodup h.name
end Go.Proofs.Z
end
section
namespace Go.Proofs.Z
def tC {α:Type} (c:α→α→Int):List α→List α→Int
 | [],[]=>0
 | [],_::_=>-1
 | _::_,[]=>1
 | x::l,y::m=>if c x y≠0 then c x y else tC c l m
theorem Z4 {α:Type} {c:α→α→Int} (hc:Order c):Order (tC c) where
 eq:=by
  intro a
  induction a with
  | nil=>intro b; cases b <;> simp [tC]
  | cons x l ih=>
   intro b
   cases b with
   | nil=>simp [tC]
   | cons y m=>
    simp only [tC,aau]
    split
    ·rename_i h; constructor
     ·intro h'; exact (h h').elim
     ·rintro ⟨rfl,_⟩; exact (h ((hc.eq _ _).2 rfl)).elim
    ·rename_i h
     have h:c x y=0:=by simpa using h
     rw [ih]; have:=(hc.eq x y).1 h; simp [this]
 flip:=by
  intro a
  induction a with
  | nil=>intro b; cases b <;> simp [tC]
  | cons x l ih=>
   intro b
   cases b with
   | nil=>simp [tC]
   | cons y m=>
    simp only [tC]
    by_cases h:c x y=0
    ·have e:=(hc.eq x y).1 h; subst e
     simp [h,ih]
    ·have h':c y x≠0:=fun e=>h ((hc.eq _ _).2 ((hc.eq _ _).1 e).symm)
     rw [adA h,adA h']; exact hc.flip x y
 trans:=by
  intro a
  induction a with
  | nil=>intro b d; cases b <;> cases d <;> simp [tC]
  | cons x l ih=>
   intro b d
   cases b with
   | nil=>simp [tC]
   | cons y m=>
    cases d with
    | nil=>simp [tC]
    | cons z n=>
     simp only [tC]
     by_cases h1:c x y=0
     ·have e:=(hc.eq x y).1 h1; subst e
      by_cases h2:c x z=0
      ·simp only [h1,h2,ne_eq,arR,ajs]; exact ih m n
      ·simp only [h1,h2,ne_eq,arR,ajs,arO,aiq]; exact fun _ h=>h
     ·by_cases h2:c y z=0
      ·have e:=(hc.eq y z).1 h2; subst e
       simp only [h1,h2,ne_eq,arR,ajs,arO,aiq]; exact fun h _=>h
      ·simp only [h1,h2,ne_eq,arO,aiq]
       intro h3 h4
       have h5:=hc.trans x y z h3 h4
       rw [adA (by omega)]; exact h5
theorem acP (a b:List V):cZ a b=tC nZ a b:=by
 induction a generalizing b with
 | nil=>cases b <;> rfl
 | cons x l ih=>cases b with
  | nil=>rfl
  | cons y m=>simp only [cZ,tC,ih]
theorem Aa (a:ByteArray):iR a a=false:=by simp [iR,List.lt_irrefl]
theorem I9 {a b d:ByteArray} (h1:iR a b=true) (h2:iR b d=true):iR a d=true:=by
 simp only [iR,aqp] at *; exact List.lt_trans h1 h2
theorem UL {a b:ByteArray} (h1:iR a b=false) (h2:iR b a=false):a=b:=by
 simp only [iR,aqU] at h1 h2
 have:=List.le_antisymm (List.not_lt.1 h2) (List.not_lt.1 h1)
 cases a; cases b
 simpa using Array.toList_inj.1 this
theorem EC:Order wH where
 eq a b:=by
  unfold wH
  by_cases h1:iR a b=true
  ·simp only [h1,aiq]
   constructor
   ·intro h; omega
   ·rintro rfl; rw [Aa] at h1; cases h1
  ·simp only [h1]
   by_cases h2:iR b a=true
   ·simp only [h2,aiq]
    constructor
    ·intro h; simp at h
    ·rintro rfl; rw [Aa] at h2; cases h2
   ·simp [h2]
    exact UL (by simpa using h1) (by simpa using h2)
 flip a b:=by
  unfold wH
  have:iR a b=true→iR b a=true→False:=fun h1 h2=>by have:=I9 h1 h2; rw [Aa] at this; cases this
  cases h1:iR a b <;> cases h2:iR b a <;> simp_all
 trans a b d:=by
  unfold wH
  cases h1:iR a b <;> cases h2:iR b d <;> simp
  ·split <;> simp
  ·split <;> simp
  ·split <;> simp
  ·rw [I9 h1 h2]; simp
theorem LH:Order nZ:=by
 have h2:Order (fun a b:Int × ByteArray=>if bZ a.1 b.1=0 then wH a.2 b.2 else bZ a.1 b.1):=by
  refine Eh (c:=fun a b:Int × ByteArray=>bZ a.1 b.1) (d:=fun a b:Int × ByteArray=>wH a.2 b.2) (fun a=>(dL.eq _ _).2 rfl) (fun a b=>dL.flip _ _) (fun a b e=>dL.trans _ _ _) (fun a b e h=>?_) (fun a b h=>?_) (fun a b=>EC.flip _ _) (fun a b e=>EC.trans _ _ _)
  ·have:=(dL.eq _ _).1 h; simp [this]
  ·have h:=(dL.eq _ _).1 h
   rw [EC.eq]; cases a; cases b; simp at h ⊢; simp [h]
 have h3:Order (fun a b:V=>if bZ a.kind b.kind=0 then (if bZ a.n b.n=0 then wH a.text b.text else bZ a.n b.n) else bZ a.kind b.kind):=by
  refine Eh (c:=fun a b:V=>bZ a.kind b.kind) (d:=fun a b:V=>if bZ a.n b.n=0 then wH a.text b.text else bZ a.n b.n) (fun a=>(dL.eq _ _).2 rfl) (fun a b=>dL.flip _ _) (fun a b e=>dL.trans _ _ _) (fun a b e h=>?_) (fun a b h=>?_) (fun a b=>h2.flip (a.n,a.text) (b.n,b.text)) (fun a b e=>h2.trans (a.n,a.text) (b.n,b.text) (e.n,e.text))
  ·have:=(dL.eq _ _).1 h; simp [this]
  ·have h:=(dL.eq _ _).1 h
   have:=h2.eq (a.n,a.text) (b.n,b.text)
   dsimp only at this
   rw [this]; cases a; cases b; simp at h ⊢; simp [h]
 have:nZ=fun a b:V=>if bZ a.kind b.kind=0 then (if bZ a.n b.n=0 then wH a.text b.text else bZ a.n b.n) else bZ a.kind b.kind:=by
  funext a b; simp only [nZ,ne_eq,ite_not]
 rw [this]; exact h3
theorem dM:Order cZ:=by
 have:cZ=tC nZ:=by funext a b; exact acP a b
 rw [this]; exact Z4 LH
end Go.Proofs.Z
end
section
namespace Go.Proofs.Z
open Go Go.au Go.Proofs
theorem LJ {s:UInt8}:∀ {a b A B:List UInt8},s∉a→s∉b→a++s::A=b++s::B→a=b∧A=B
 | [],[],A,B,_,_,h=>⟨rfl,by simpa using h⟩
 | [],y::b,A,B,_,hb,h=>by simp only [agU,agA,aau] at h; exact (hb (by rw [h.1]; exact aeC ..)).elim
 | x::a,[],A,B,ha,_,h=>by simp only [agU,agA,aau] at h; exact (ha (by rw [h.1]; exact aeC ..)).elim
 | x::a,y::b,A,B,ha,hb,h=>by
  simp only [agA,aau] at h
  obtain ⟨e1,e2⟩:=LJ (fun m=>ha (aej _ m)) (fun m=>hb (aej _ m)) h.2
  exact ⟨by rw [h.1,e1],e2⟩
def dval (l:List UInt8):Nat:=l.foldl (fun a c=>a * 10+(c.toNat - 48)) 0
theorem Bd {u:Nat} (h:u<10):(UInt8.ofNat (48+u)).toNat=48+u:=by
 rw [UInt8.toNat_ofNat']; omega
theorem ED (u:Nat):dval (arw u)=u:=by
 induction u using Nat.strongRecOn with
 | _ u ih=>
  by_cases h:u<10
  ·rw [arw,arQ h]
   simp only [dval,aro,aw5,Bd h]; omega
  ·rw [arw,auV h]
   have:=ih (u / 10) (by omega)
   unfold dval at this ⊢
   rw [asK,this]
   simp only [aro,aw5,Bd (au2 u (by decide:0<10))]; omega
theorem NR (u:Nat):∀ c∈arw u,48≤c.toNat∧c.toNat≤57:=by
 induction u using Nat.strongRecOn with
 | _ u ih=>
  intro c hc
  by_cases h:u<10
  ·rw [arw,arQ h] at hc
   rw [adJ.1 hc,Bd h]; omega
  ·rw [arw,auV h] at hc
   rcases agh.1 hc with hc | hc
   ·exact ih (u / 10) (by omega) c hc
   ·have:=au2 u (by decide:0<10)
    rw [adJ.1 hc,Bd this]; omega
theorem ai3 (u:Nat):arw u≠[]:=by
 by_cases h:u<10
 ·rw [arw,arQ h]; simp
 ·rw [arw,auV h]; simp
theorem JJ {n:Int} {c:UInt8} (hc:c∈aqs n):c.toNat=45∨(48≤c.toNat∧c.toNat≤57):=by
 unfold aqs at hc
 split at hc
 ·rcases agB.1 hc with rfl | hc
  ·exact .inl rfl
  ·exact .inr (NR _ c hc)
 ·exact .inr (NR _ c hc)
theorem Z5 (n:Int):∃ c l,aqs n=c::l∧(c.toNat=45∨(48≤c.toNat∧c.toNat≤57)):=by
 cases h:aqs n with
 | nil=>
  unfold aqs at h
  split at h
  ·cases h
  ·exact (ai3 _ h).elim
 | cons c l=>exact ⟨c,l,rfl,JJ (n:=n) (by rw [h]; exact aeC ..)⟩
theorem Ti {n m:Int} (h:aqs n=aqs m):n=m:=by
 have hd:∀ u l,arw u=45::l→False:=fun u l e=>by
  have:=NR u 45 (by rw [e]; exact aeC ..)
  have h45:(45:UInt8).toNat=45:=rfl
  omega
 unfold aqs at h
 split at h
 ·split at h
  ·have:=congrArg dval (List.cons.inj h).2
   rw [ED,ED] at this; omega
  ·exact (hd _ _ h.symm).elim
 ·split at h
  ·exact (hd _ _ h).elim
  ·have:=congrArg dval h
   rw [ED,ED] at this; omega
theorem Bf (n:Int):(32:UInt8)∉aqs n:=fun h=>by
 have:=JJ h
 have h32:(32:UInt8).toNat=32:=rfl
 omega
theorem Z7 {c d:UInt8} {X Y:List UInt8} (h:iL c++X=iL d++Y):c=d∧X=Y:=by
 unfold iL at h
 repeat' split at h
 all_goals (simp only [agA,agU,aau] at h)
 all_goals first
  | (obtain ⟨h1,h2⟩:=h; exact ⟨h1,h2⟩)
  | (obtain ⟨_,h1,h2⟩:=h; first | exact ⟨by simp_all,h2⟩ | (exact absurd h1 (by decide)))
  | simp_all
theorem LK (c:UInt8):∃ d l,iL c=d::l∧d≠34:=by
 unfold iL
 repeat' split
 ·exact ⟨92,_,rfl,by decide⟩
 ·exact ⟨92,_,rfl,by decide⟩
 ·exact ⟨92,_,rfl,by decide⟩
 ·exact ⟨c,_,rfl,by assumption⟩
theorem yP (c:UInt8) (l:List UInt8):bf (c::l)=iL c++bf l:=rfl
theorem OT:∀ {a b A B:List UInt8},bf a++34::A=bf b++34::B→a=b∧A=B
 | [],[],A,B,h=>⟨rfl,by simpa [bf] using h⟩
 | [],y::b,A,B,h=>by
  obtain ⟨d,l,e,hd⟩:=LK y
  rw [yP,e] at h
  simp only [bf,awi,agU,agA,ai2,aau] at h
  exact (hd h.1.symm).elim
 | x::a,[],A,B,h=>by
  obtain ⟨d,l,e,hd⟩:=LK x
  rw [yP,e] at h
  simp only [bf,awi,agU,agA,ai2,aau] at h
  exact (hd h.1).elim
 | x::a,y::b,A,B,h=>by
  rw [yP,yP,ai2,ai2] at h
  obtain ⟨e1,e2⟩:=Z7 h
  obtain ⟨e3,e4⟩:=OT e2
  exact ⟨by rw [e1,e3],e4⟩
theorem XC {s:ByteArray} (h:s.size=0):s=ajl:=by
 obtain ⟨⟨l⟩⟩:=s
 have:l=[]:=ai9.1 h
 subst this; rfl
inductive yQ:V→List UInt8→Prop
 | null:yQ ⟨0,0,ajl⟩ [110,117,108,108]
 | text (t:ByteArray):yQ ⟨1,0,t⟩ (34::(bf (bytes t)++[34]))
 | num (n:Int):yQ ⟨2,n,ajl⟩ (aqs n)
 | date (n:Int):yQ ⟨3,n,ajl⟩ (64::aqs n)
 | no:yQ ⟨4,0,ajl⟩ [102,97,108,115,101]
 | yes:yQ ⟨4,1,ajl⟩ [116,114,117,101]
theorem acQ:asR true=[116,114,117,101]:=by decide +kernel
theorem Z8:asR false=[102,97,108,115,101]:=by decide +kernel
theorem EF {v:V} (h:dI v=true):yQ v (bytes (bU v)):=by
 unfold bU
 rw [h]
 simp only [asw,aj9,ajs]
 obtain ⟨k,n,t⟩:=v
 unfold dI AO at h
 simp only at h ⊢
 by_cases h1:k=1
 ·subst h1
  simp at h
  have:n=0:=by omega
  subst this
  simp only [aiq,qG,bytes]
  exact .text t
 rw [adt h1]
 by_cases ht:t.size=0
 ·obtain rfl:=XC ht
  rw [adt (by simp [ht])] at h
  by_cases h2:k=2
  ·subst h2; simp only [aiq,bytes]; exact .num n
  by_cases h3:k=3
  ·subst h3; simp only [bytes]; exact .date n
  by_cases h4:k=4
  ·subst h4
   simp at h
   have:n=0∨n=1:=by omega
   rcases this with rfl | rfl
   ·simp only [bytes]
    have e:((0:Int) == 1)=false:=rfl
    rw [e,Z8]; exact .no
   ·simp only [bytes]
    have e:((1:Int) == 1)=true:=rfl
    rw [e,acQ]; exact .yes
  ·rw [adt h2,adt h3,adt h4]
   by_cases h0:k=0
   ·subst h0
    simp at h
    have:n=0:=by omega
    subst this
    exact .null
   ·simp [h0,h1,h2,h3,h4] at h
 ·rw [adA ⟨h1,ht⟩] at h; cases h
theorem Tj {u v:V} {a b A B:List UInt8} (hu:yQ u a) (hv:yQ v b) (h:a++32::A=b++32::B):u=v∧A=B:=by
 have hi:∀ {n:Int} {A:List UInt8} {d:UInt8} {l:List UInt8},d.toNat≠45→¬ (48≤d.toNat∧d.toNat≤57)→aqs n++A=d::l→False:=by
  intro n A d l h1 h2 h3
  obtain ⟨c,m,e,hc⟩:=Z5 n
  rw [e] at h3
  simp only [agA,aau] at h3
  rw [h3.1] at hc; omega
 cases hu <;> cases hv
 all_goals try simp only [agA,agU,ai2,aau] at h
 all_goals first
  | exact (hi (by decide) (by decide) h).elim
  | exact (hi (by decide) (by decide) h.symm).elim
  | (exact absurd h.1 (by decide))
  | skip
 ·exact ⟨rfl,by simpa using h⟩
 ·obtain ⟨e1,e2⟩:=OT h.2
  refine ⟨?_,by simpa using e2⟩
  rw [bytes_inj e1]
 ·obtain ⟨e1,e2⟩:=LJ (Bf _) (Bf _) h
  exact ⟨by rw [Ti e1],e2⟩
 ·obtain ⟨e1,e2⟩:=LJ (Bf _) (Bf _) h.2
  exact ⟨by rw [Ti e1],e2⟩
 ·exact ⟨rfl,by simpa using h⟩
 ·exact ⟨rfl,by simpa using h⟩
theorem Tm:∀ {a b:List V},dV a→dV b→iO a=iO b→a=b
 | [],[],_,_,_=>rfl
 | [],v::b,_,_,h=>by simp [iO] at h
 | v::a,[],_,_,h=>by simp [iO] at h
 | v::a,u::b,ha,hb,h=>by
  have e:∀ (v:V) (l:List V),iO (v::l)=bytes (bU v)++32::iO l:=fun v l=>by simp [iO]
  rw [e,e] at h
  obtain ⟨e1,e2⟩:=Tj (EF (ha v (aeC ..))) (EF (hb u (aeC ..))) h
  rw [e1,Tm (fun x hx=>ha x (aej _ hx)) (fun x hx=>hb x (aej _ hx)) e2]
theorem JK {a b:List V} (ha:dV a) (hb:dV b) (h:rowB a=rowB b):a=b:=by
 refine Tm ha hb ?_
 have:=congrArg bytes h
 simpa [rowB,bytes] using this
theorem Adds.inj {n c:Nat} {L:bD} (h:Adds n c L):rE L:=fun x hx y hy e=>JK (h.valid x hx) (h.valid y hy) e
def rU {α:Type}:List (Option α)→Option (List α)
 | []=>some []
 | none::_=>none
 | some x::l=>match rU l with
  | some r=>some (x::r)
  | none=>none
theorem uD {α:Type}:∀ {l:List (Option α)} {r:List α},rU l=some r↔l=r.map some
 | [],r=>by
  cases r with
  | nil=>simp [rU]
  | cons y r=>simp [rU]
 | none::l,r=>by
  simp only [rU]
  constructor
  ·intro h; cases h
  ·intro h; cases r <;> simp at h
 | some x::l,r=>by
  simp only [rU]
  cases h:rU l with
  | none=>
   constructor
   ·intro h; cases h
   ·intro h2
    cases r with
    | nil=>simp at h2
    | cons y r=>
     simp only [ads,aau] at h2
     rw [uD.2 h2.2] at h; cases h
  | some q=>
   have hq:=uD.1 h
   simp only [ad2]
   constructor
   ·rintro rfl; rw [hq]; rfl
   ·intro h2
    cases r with
    | nil=>simp at h2
    | cons y r=>
     simp only [ads,aau,ad2] at h2
     have:=uD.2 h2.2
     rw [h] at this; cases this
     rw [h2.1]
theorem OU {α:Type}:∀ {l:List (Option α)},rU l=none↔none∈l
 | []=>by simp [rU]
 | none::l=>by simp [rU]
 | some x::l=>by
  simp only [rU,agB,reduceCtorEq,asW]
  rw [← OU]
  cases rU l <;> simp
instance (m:AM):Decidable (kP m):=inferInstanceAs (Decidable (_∧_))
def jI (facts:List bF):Nat→Plan→Option AM
 | 0,_=>none
 | n+1,p=>match rU (p.kids.map (jI facts n)) with
  | none=>none
  | some ms=>match bY p facts ms with
   | none=>none
   | some L=>if kP (bQ L) then some (eF (bQ L)) else none
theorem fF.perm {n c:Nat} {m m':AM} (p:m.Perm m') (h:fF n c m):fF n c m' where
 nodup:=((p.map _).nodup_iff).1 h.nodup
 len:=by rw [← p.length_eq]; exact h.len
 name:=fun q hq=>h.name q (p.mem_iff.2 hq)
 valid:=fun q hq=>h.valid q (p.mem_iff.2 hq)
 width:=fun q hq=>h.width q (p.mem_iff.2 hq)
 few:=fun q hq=>h.few q (p.mem_iff.2 hq)
 some:=fun q hq=>h.some q (p.mem_iff.2 hq)
 yC:=fun q hq=>h.yC q (p.mem_iff.2 hq)
 min:=fun q hq=>h.min q (p.mem_iff.2 hq)
theorem GZ {α β:Type} {f g:α→List β}:∀ (l:List α),(∀ a∈l,(f a).Perm (g a))→(l.flatMap f).Perm (l.flatMap g)
 | [],_=>.refl _
 | x::l,h=>by
  simp only [aqo]
  exact (h x (aeC ..)).append (GZ l fun a ha=>h a (aej _ ha))
theorem G5 {α β:Type} {f g:α→List β} {l m:List α} (h:l.Perm m) (hf:∀ a∈l,(f a).Perm (g a)):(l.flatMap f).Perm (m.flatMap g):=
 (GZ l hf).trans (anf g h)
theorem UM {m m':AM} (p:m.Perm m') (hn:(m.map (·.1)).Nodup) (n:ByteArray):ni n m=ni n m':=by
 have hn':(m'.map (·.1)).Nodup:=((p.map _).nodup_iff).1 hn
 by_cases h:∃ q∈m,q.1=n
 ·obtain ⟨q,hq,rfl⟩:=h
  rw [oZ hn hq,oZ hn' (p.mem_iff.1 hq)]
 ·rw [sH (fun q hq e=>h ⟨q,hq,e⟩),sH (fun q hq e=>h ⟨q,p.mem_iff.2 hq,e⟩)]
theorem Ci {m m':AM} (p:m.Perm m') (hn:(m.map (·.1)).Nodup) (q:ByteArray × Ans):fD m q=fD m' q:=by
 unfold fD; rw [UM p hn]
def als:Option bD→Option bD→Prop
 | some L,some M=>L.Perm M
 | none,none=>True
 | _,_=>False
theorem G6 {tl:List bH} {facts:List bF} {n:Nat} {p:Plan} (hs:Shape tl n p) {ms ms':List AM} (hl:ms.length=p.kids.length) (hl':ms'.length=p.kids.length)
  (hp:∀ i (h:i<ms.length) (h2:i<ms'.length),(ms[i].Perm ms'[i])∧(ms[i].map (·.1)).Nodup):als (bY p facts ms) (bY p facts ms'):=by
 have one:∀ q,p.kids=[q]→∃ m m',ms=[m]∧ms'=[m']∧m.Perm m':=by
  intro q hk
  rw [hk] at hl hl'
  obtain ⟨m,rfl⟩:=agj.1 hl
  obtain ⟨m',rfl⟩:=agj.1 hl'
  exact ⟨m,m',rfl,rfl,(hp 0 (by simp) (by simp)).1⟩
 have two:∀ q r,p.kids=[q,r]→∃ m1 m2 ql xO,ms=[m1,m2]∧ms'=[ql,xO]∧m1.Perm ql∧m2.Perm xO∧(m2.map (·.1)).Nodup:=by
  intro q r hk
  rw [hk] at hl hl'
  obtain ⟨m1,m2,rfl⟩:=lM hl
  obtain ⟨ql,xO,rfl⟩:=lM hl'
  exact ⟨m1,m2,ql,xO,rfl,rfl,(hp 0 (by simp) (by simp)).1,(hp 1 (by simp) (by simp)).1,(hp 1 (by simp) (by simp)).2⟩
 unfold bY
 cases hs with
 | table hk hks h0 h1 hl'=>rw [adA hk,adA hk]; exact .refl _
 | sel hk q hks hq hsv hl'=>
  obtain ⟨m,m',rfl,rfl,h⟩:=one q hks
  simp only [hk,hks,reduceIte,aga]
  exact anf _ h
 | proj hk q hks hq hcc hl'=>
  obtain ⟨m,m',rfl,rfl,h⟩:=one q hks
  simp only [hk,hks,reduceIte,aga]
  exact anf _ h
 | ren hk q hks hq hl'=>
  obtain ⟨m,m',rfl,rfl,h⟩:=one q hks
  simp only [hk,hks,reduceIte,aga]
  exact anf _ h
 | join hk q r hks hq hr hn hj=>
  obtain ⟨m1,m2,ql,xO,rfl,rfl,h1,h2,_⟩:=two q r hks
  simp only [hk,hks,reduceIte,aga]
  exact G5 h1 fun a _=>anf _ h2
 | union hk q r hks hq hr hl1 hl2=>
  obtain ⟨m1,m2,ql,xO,rfl,rfl,h1,h2,_⟩:=two q r hks
  simp only [hk,hks,reduceIte,aga]
  exact (anf _ h1).append (anf _ h2)
 | minus hk q r hks hq hr hl1 hl2=>
  obtain ⟨m1,m2,ql,xO,rfl,rfl,h1,h2,hn⟩:=two q r hks
  simp only [hk,hks,reduceIte,aga]
  have hall:(m1.all fun q=>(fD m2 q).isSome)=ql.all fun q=>(fD xO q).isSome:=by
   rw [ap5,afX,afX]
   constructor
   ·intro h x hx; rw [← Ci h2 hn]; exact h x (h1.mem_iff.2 hx)
   ·intro h x hx; rw [Ci h2 hn]; exact h x (h1.mem_iff.1 hx)
  rw [hall]
  split
  ·refine G5 h1 fun a _=>?_
   unfold jU; rw [Ci h2 hn]
  ·trivial
theorem LM {tl:List bH} {facts:List bF} (hf:iT tl facts):∀ (n:Nat) (p:Plan),aV n tl p=true→grp p=false →
  (∀ m,Bc facts n p m→∃ m0,jI facts n p=some m0∧m.Perm m0)∧(OJ facts n p→jI facts n p=none)
 | 0,p,hv,_=>by simp [aV] at hv
 | n+1,p,hv,hg=>by
  obtain ⟨h8,hgk⟩:=o8 hg
  have hs:=kF hv h8
  have ih:=fun q (hq:q∈p.kids)=>LM hf n q (hs.kids q hq) (hgk q hq)
  have kids:∀ ms:List AM,ms.length=p.kids.length→(∀ i (h:i<p.kids.length) (h2:i<ms.length),Bc facts n p.kids[i] ms[i])→∃ ms0,rU (p.kids.map (jI facts n))=some ms0∧ms0.length=p.kids.length ∧
    (∀ i (h:i<ms.length) (h2:i<ms0.length),(ms[i].Perm ms0[i])∧(ms[i].map (·.1)).Nodup)∧(∀ i (h:i<p.kids.length) (h2:i<ms.length),fF facts.length p.kids[i].attrs.length ms[i])∧∀ i (h:i<p.kids.length) (h2:i<ms0.length),fF facts.length p.kids[i].attrs.length ms0[i]:=by
   intro ms hl hk
   have hc:∀ i (h:i<p.kids.length) (h2:i<ms.length),fF facts.length p.kids[i].attrs.length ms[i]:=fun i h h2=>oC hf n _ _ (hs.kids _ (aaO h)) (hgk _ (aaO h)) (hk i h h2)
   have hex:∀ i (h:i<p.kids.length),∃ m0,jI facts n p.kids[i]=some m0∧(ms[i]'(by omega)).Perm m0:=fun i h=>(ih _ (aaO h)).1 _ (hk i h (by omega))
   refine ⟨(p.kids.map fun q=>(jI facts n q).getD []),?_,by simp,fun i h h2=>?_,hc,fun i h h2=>?_⟩
   ·rw [uD,apC]
    refine ajh fun q hq=>?_
    obtain ⟨i,hi,rfl⟩:=af2 hq
    obtain ⟨m0,e,_⟩:=hex i hi
    simp [e]
   ·obtain ⟨m0,e,hp⟩:=hex i (by omega)
    simp only [apX,e,Option.getD_some]
    exact ⟨hp,(hc i (by omega) h).nodup⟩
   ·obtain ⟨m0,e,hp⟩:=hex i h
    simp only [apX,e,Option.getD_some]
    exact (hc i h (by omega)).perm hp
  refine ⟨?_,?_⟩
  ·rintro m ⟨ms,hl,hk,L0,L,h0,hp,hc,rfl⟩
   obtain ⟨ms0,e0,hl0,hpm,hcl,hcl0⟩:=kids ms hl hk
   have hpo:=G6 (facts:=facts) hs hl hl0 hpm
   rw [h0] at hpo
   cases h1:bY p facts ms0 with
   | none=>rw [h1] at hpo; exact hpo.elim
   | some M=>
    rw [h1] at hpo
    have hpo:L0.Perm M:=hpo
    have hA:=(wQ hf hs hl hcl h0).perm hp.symm
    have hLM:L.Perm M:=hp.trans hpo
    refine ⟨eF (bQ M),?_,I7 hLM hA.inj⟩
    simp only [jI,e0,h1]
    rw [adA ((GX hLM hA.inj).1 hc)]
  ·rintro (⟨i,h,hx⟩ | ⟨ms,hl,hk,h⟩)
   ·have:rU (p.kids.map (jI facts n))=none:=by
     rw [OU,adE]
     exact ⟨p.kids[i],aaO h,(ih _ (aaO h)).2 hx⟩
    simp only [jI,this]
   ·obtain ⟨ms0,e0,hl0,hpm,hcl,hcl0⟩:=kids ms hl hk
    have hpo:=G6 (facts:=facts) hs hl hl0 hpm
    rcases h with h0 | ⟨L0,L,h0,hp,hc⟩
    ·rw [h0] at hpo
     cases h1:bY p facts ms0 with
     | none=>simp only [jI,e0,h1]
     | some M=>rw [h1] at hpo; exact hpo.elim
    ·rw [h0] at hpo
     cases h1:bY p facts ms0 with
     | none=>rw [h1] at hpo; exact hpo.elim
     | some M=>
      rw [h1] at hpo
      have hpo:L0.Perm M:=hpo
      have hA:=(wQ hf hs hl hcl h0).perm hp.symm
      have hLM:L.Perm M:=hp.trans hpo
      simp only [jI,e0,h1]
      rw [adt (fun h=>hc ((GX hLM hA.inj).2 h))]
def G7 (x:Ans):List Ans→List Ans
 | []=>[x]
 | y::l=>if cZ x.row y.row<0 then x::y::l else y::G7 x l
def sortA (l:List Ans):List Ans:=l.foldr G7 []
theorem G8 (x:Ans):∀ l,(G7 x l).Perm (x::l)
 | []=>.refl _
 | y::l=>by
  simp only [G7]
  split
  ·exact .refl _
  ·exact ((G8 x l).cons y).trans (.swap x y l)
theorem rG:∀ l,(sortA l).Perm l
 | []=>.refl _
 | x::l=>(G8 x (sortA l)).trans ((rG l).cons x)
end Go.Proofs.Z
end
