/- A part of the proof. -/
import Derived.Test.YtjbhhddfaohdnaaGreatDoorPK6
set_option linter.all false
set_option linter.deprecated false
open ByteArray renaming empty→aib
open Go.Lib renaming itoa_length_le→as5,formatBool→aqa,decDigits→ao4,itoa→an6
open Go.Proofs.Tryz renaming prog→abZ
open Int renaming toNat_zero→aex,reduceEq→aio
open List renaming cons_append→ae0,Nodup→apy,length_cons→aey,length_nil→akO,mem_iff_getElem→auL,getElem_cons_zero→afL,getElem_cons_succ→amZ,nil_append→aif,foldl_cons→aoY,foldl_nil→aur
section
namespace Go.Proofs.Z
open Go Go.au Go.Proofs
set_option maxRecDepth 10000
set_option maxHeartbeats 4000000
theorem ahu:aH abZ 153:=fun _ _=>by kernel_rfl
theorem acV:aH abZ 75:=fun _ _=>by kernel_rfl
theorem _root_.Go.au.y8 {C:Cx} {n:Nat} {a:Act} {w:World}:∀ {k:List KI},fin C k (.goto n) a w→C.post (.goto n) a w
 | [],h=>h
 | .code _::k,h=>y8 (k:=k) h
 | .ops _ _::k,h=>y8 (k:=k) h
 | .inBlock _::k,h=>y8 (k:=k) h
 | .aO _::k,h=>y8 (k:=k) h
theorem _root_.Go.au.R.scope {C:Cx} {k:List KI} {s:St} {c:Code} (hp:∀ n a w,¬ C.post (.goto n) a w) (h:R C (.code c::k) s):R C (.code (.scope c)::k) s:=by
 intro a w E g
 refine wp_scope_straight (wp_mono (h a w E g) ?_)
 intro e a w hq
 cases e with
 | goto n=>exact hp n a w (y8 hq)
 | normal=>exact hq
 | exit _=>exact hq
 | ret=>exact hq
 | panic _=>exact hq
 | outgrown=>exact hq
theorem _root_.Go.au.R.label {C:Cx} {k:List KI} {s:St} {n:Nat} (h:R C k s):R C (.code (.label n)::k) s:=fun a w E g=>wp_label (h a w E g)
theorem YM (l:List V) (hl:l.length≤1000000000):dZ abZ 75 [.pd (vals l)] [] [] (fun res M'=>res = .own ⟨76,3,l.map val⟩∧M'=[]):=by
 refine dZ.mk Tryz.func75 rfl acV (by simp [Tryz.ntmps75]) fun w G=>?_
 refine aNF ?_
 refine fun b hb=>⟨fun h=>?_,fun h=>?_⟩
 ·refine aNF ?_
  refine R.jT 2 2 76 3 (by (simp only [go_sem])) rfl rfl ?_
  simp only [go_sem]
  refine R.qX rfl rfl rfl ⟨?_,rfl⟩
  rw [hb h]
 ·(refine aB 3 _ _ ?_; simp only [go_sem])
  refine R.empty 5 rfl rfl rfl rfl (by (simp only [go_sem])) AQ (by rw [Ec,wV]; decide) (by rw [Ec,AU]; rfl) ?_
  refine aNF ?_
  refine R.append rfl rfl (ah (by (simp only [go_sem]))) rfl rfl rfl (es:=l.map val) rfl AQ rfl wV (by decide) (congrArg (Option.map List.length) AU) rfl (fun i hi=>?_) ?_ ?_ ?_
  ·simp only [aci] at hi
   simp only [getD_map,hi]; rfl
  ·rw [Ec,EL]; simp; omega
  ·simp [maxLen]; omega
  refine aNF ?_
  exact R.qX rfl rfl rfl ⟨rfl,rfl⟩
abbrev jE (la:List Attr):List (Attr × Nat):=la.zipIdx
abbrev nY (l:List (Attr × Nat)):jI:=l.map fun p=>(.string p.1.name,I p.2)
def ji (la:List Attr) (n:ByteArray):Option Nat:=la.findIdx? fun a=>decide (a.name=n)
def gu (la:List Attr) (x:List V):List (Attr × V)→List V→Option (List V)
 | [],out=>some out
 | (a,v)::l,out=>match ji la a.name with
  | some k=>if iO (x.getD k V.zero) 1 v 0 then gu la x l out else none
  | none=>gu la x l (out++[v])
def jk (la lb:List Attr) (x y:List V):Option (List V):=gu la x (lb.zip y) x
theorem zX (la:List Attr) (x:List V) (m:List (Attr × V)):∀ (l:List (Attr × V)) (out:List V),gu la x (l++m) out=(gu la x l out).bind (gu la x m)
 | [],out=>rfl
 | (a,v)::l,out=>by
  simp only [ae0,gu]
  split
  ·split
   ·exact zX la x m l out
   ·rfl
  ·exact zX la x m l _
theorem FN (la:List Attr) (x:List V):∀ (l:List (Attr × V)) (out out':List V),gu la x l out=some out'→out'.length≤out.length+l.length
 | [],out,out',h=>by simp only [gu,acX] at h; subst h; simp
 | (a,v)::l,out,out',h=>by
  simp only [gu] at h
  split at h
  ·split at h
   ·have:=FN la x l out out' h; simp; omega
   ·cases h
  ·have:=FN la x l _ out' h; simp at this ⊢; omega
def iH (la lb:List Attr) (q1 q2:ByteArray × Ans):bC:=match jk la lb q1.2.row q2.2.row with
 | some row=>[(row,bM (eP q1.2.ways q2.2.ways))]
 | none=>[]
theorem aj9 (la:List Attr) (hn:(la.map (·.name)).Nodup) (n:ByteArray):(∃ k,ji la n=some k∧k<la.length∧lS abZ 3 .string (.string n) ((nY (jE la)).map (·.1)) ((nY (jE la)).map (·.2)) true (I k))∨(ji la n=none∧lS abZ 3 .string (.string n) ((nY (jE la)).map (·.1)) ((nY (jE la)).map (·.2)) false (I 0)):=by
 have hkk:∀ k∈(nY (jE la)).map (·.1),bH .string k=true:=by
  intro k hk
  simp only [anY,acL] at hk
  obtain ⟨p,_,rfl⟩:=hk
  rfl
 have hks:(nY (jE la)).map (·.1)=la.map fun a=>Value.string a.name:=by
  apply akV
  ·simp
  ·intro i h1 h2; simp
 have hds:(nY (jE la)).map (·.2)=(List.range la.length).map fun i=>I (i:Nat):=by
  apply akV
  ·simp
  ·intro i h1 h2; simp
 cases h:ji la n with
 | some k=>
  unfold ji at h
  rw [anc] at h
  obtain ⟨hk,hk2,_⟩:=h
  refine .inl ⟨k,rfl,hk,rfl,hkk,?_,k,by rw [hks]; simpa using hk,?_,?_⟩
  ·rw [hks]
   simp only [apy,anO] at hn ⊢
   exact hn.imp fun h e=>h (by simpa using e)
  ·rw [hks]; simp at hk2; simp [hk,hk2]
  ·rw [hds]; simp [hk]
 | none=>
  unfold ji at h
  rw [ap7] at h
  refine .inr ⟨rfl,rfl,fun k hk=>⟨hkk k hk,fun e=>?_⟩,zd3⟩
  rw [hks] at hk
  obtain ⟨a,ha,rfl⟩:=acL.1 hk
  have:=h a ha
  simp at e this; exact this e
theorem abm (p k0 k1:Plan) (facts:List bQ) (hk:p.kids=[k0,k1]) (r1 r2:Nat) (m1 m2:AM) (h12:r1≠r2) (n1:(m1.map (·.1)).Nodup) (n2:(m2.map (·.1)).Nodup) (s1:FM m1) (s2:FM m2)
  (hna:(k0.attrs.map (·.name)).Nodup) (hla:k0.attrs.length≤100000000) (hlb:k1.attrs.length≤100000000) (hr1:∀ q∈m1,q.2.row.length=k0.attrs.length) (hr2:∀ q∈m2,q.2.row.length=k1.attrs.length)
  (ho:okD (m1.flatMap fun q1=>m2.flatMap (iH k0.attrs k1.attrs q1))):
  dZ abZ 153 [.pd (Np p facts [r1,r2])] [(r1,aI m1),(r2,aI m2)] [] (FD (m1.flatMap fun q1=>m2.flatMap (iH k0.attrs k1.attrs q1))):=by
 have hz:=bK h12
 generalize al9:k0.attrs=la at *
 generalize ama:k1.attrs=lb at *
 refine dZ.mk Tryz.func153 rfl ahu (by simp [Tryz.ntmps153]) fun w G=>?_
 simp only [Np,hk,ab9,acH]
 refine aNF ?_
 refine R.makeMap rfl rfl rfl (by (simp only [go_sem])) fun rl hl1 hr0=>?_
 have f1:=bK (eu (q:=r1) (x:=.map (aI m1)) hr0 (by simp [St.map,St.bf,lk]))
 have f2:=bK (eu (q:=r2) (x:=.map (aI m2)) hr0 (by simp [St.map,St.bf,lk,hz]))
 clear hr0
 apply ev8; simp only [go_sem,aex,aN k0,al9]
 repeat refine ⟨by omega,?_⟩
 have hl0:([]:jI)=nY ((jE la).take 0):=rfl
 refine R.vk (fun (k:Nat) s=>{ St.lp [1,2,3,6,8,10,11,12,13,14,15,22,23,34,35,36,37,38,39,40,41,42,43,44,45,46,47,48,49,50,51,52,53,54,55,56,57,58,59,60,61,62,63,64,65,66,67,68,69,70,71,72,73,74,75,76,77,78,79,80,81,82,83,84,85,86,87,88,89,90,91,92,93,94,95,96,97,98,99,100,101,102,103,104,105,107] [(24,.pd (I k))] [1,8,10,13] [] [] [] s with maps:=[(rl,.map (nY ((jE la).take k))),(r1,.map (aI m1)),(r2,.map (aI m2))] }) (fun (k:Nat)=>k≤la.length) (fun (k:Nat)=>la.length - k) (0) (by omega) (by (simp only [go_sem,f1,f2,hz]); all_goals (and_intros <;> first | rfl | simp)) ?_
 rintro k hk'
 apply aA; simp only [go_sem,ab1,SV.pd.injEq]
 refine ⟨fun h=>?_,fun h=>?_⟩
 ·have hlt:k<la.length:=by simpa using h
  have hlz:k<(jE la).length:=by simpa using hlt
  have hsn:nY ((jE la).take (k+1))=nY ((jE la).take k)++[(.string la[k].name,I k)]:=by
   rw [ab3 hlz]; simp
  apply aA; simp only [go_sem,ab1,SV.pd.injEq,getD_map,hlt]
  repeat refine ⟨by omega,?_⟩
  refine R.jc (m:=nY ((jE la).take k)) (.inl rfl) rfl (ah (by (simp only [go_sem]))) rfl (by simp [St.map,lk]) rfl rfl OC rfl (fun q hq=>?_) (.inl hl1) ?_
  ·obtain ⟨q',hq',rfl⟩:=acL.1 hq
   refine ⟨rfl,fun e=>?_⟩
   obtain ⟨j,hj,rfl⟩:=arj.1 hq'
   simp only [List.getElem_zipIdx] at e
   have e:la[j].name=la[k].name:=by simpa using e
   have:=aeJ.1 hna j k (by simp at hj ⊢; omega) (by simpa using hlt) (by omega)
   simp only [anC] at this
   exact this e
  apply ev8; simp only [go_sem,fB,dR.fB,wrapN (k:=k) (by omega)]
  refine R.fE (k+1) (by omega) (l:=by (simp only [go_sem,hsn,f1,f2,hz]); all_goals (and_intros <;> rfl))
 have hke:(jE la).take k=jE la:=acw (by have h':¬ k<la.length:=(by simpa using h); simp; omega)
 rw [hke]
 refine aNF ?_
 refine R.makeMap rfl rfl rfl (by (simp only [go_sem])) fun r hr1' hr0=>?_
 have e1:=bK (eu (q:=r1) (x:=.map (aI m1)) hr0 (by simp [St.map,lk,f1]))
 have e2:=bK (eu (q:=r2) (x:=.map (aI m2)) hr0 (by simp [St.map,lk,f2,hz]))
 have e3:=bK (eu (q:=rl) (x:=.map (nY (jE la))) hr0 (by simp [St.map,lk]))
 clear hr0
 apply ev8; simp only [go_sem,aex]
 repeat refine ⟨by omega,?_⟩
 refine R.yZ m1 rfl rfl rfl (by (simp only [go_sem])) rfl (by simp [St.map,lk,e1,f1]) (by show (oq abZ 95).isSome=true; rw [pO]; rfl) fun b hb1 hb2=>?_
 have e4:=bK (eu (q:=r) (x:=.map []) hb2 (by simp [St.map,lk]))
 have e5:=bK (eu (q:=r1) (x:=.map (aI m1)) hb2 (by simp [St.map,lk,e1,f1]))
 have e6:=bK (eu (q:=r2) (x:=.map (aI m2)) hb2 (by simp [St.map,lk,e2,f2,hz]))
 have e7:=bK (eu (q:=rl) (x:=.map (nY (jE la))) hb2 (by simp [St.map,lk,e3]))
 clear hb1 hb2
 refine aNF ?_
 refine R.vk (fun (y:AM × AM × bC × Option Value) s=>{ St.lp [1,2,3,6,39,107] [] [1,5] [] [] [] s with maps:=[(b,.it r1 (y.2.1.map keyS) y.2.2.2),(r,.map (aI (bJ y.2.2.1))),(rl,.map (nY (jE la))),(r1,.map (aI m1)),(r2,.map (aI m2))] }) (fun (y:AM × AM × bC × Option Value)=>(y.1++y.2.1).Perm m1∧y.2.2.1.Perm ([]++y.1.flatMap fun q1=>m2.flatMap (iH la lb q1))) (fun (y:AM × AM × bC × Option Value)=>y.2.1.length) (([],m1,[],none)) (⟨.refl _,by simp⟩) (by (simp only [go_sem,yY,e1,e2,e3,f1,f2,hz,e4,e5,e6,e7]); all_goals (and_intros <;> first | rfl | simp)) ?_
 rintro ⟨done,left,L',cur⟩ ⟨hp,hL'⟩
 simp only at hp hL'
 refine aNF ?_
 refine R.Gx (m:=m1) (r:=r1) (cur:=cur) (left:=left) (done:=done) n1 hp rfl rfl (ah (by (simp only [go_sem]))) rfl (by simp [St.map,lk]) (by simp [St.map,lk,e1,e2,e3,f1,f2,hz,e4,e5,e6,e7]) (fun hz0=>?_) (fun l1 q l2 hz0 hpm hp2=>?_)
 ·subst hz0
  have hL2:L'.Perm (m1.flatMap fun q1=>m2.flatMap (iH la lb q1)):=by refine hL'.trans ?_; exact ak1 _ (by simpa using hp)
  refine aNG ?_
  refine R.um (vc:=True) [(r,aI (bJ L'))] rfl trivial ⟨r,L',rfl,rfl,hL2⟩ (fun r' m' h=>?_)
  simp only [lk] at h
  split at h
  ·rename_i e; subst e; cases h; exact ⟨by simp [St.map,lk,e1,e2,e3,f1,f2,hz,e4,e5,e6,e7],.inr hr1'⟩
  ·cases h
 ·refine aNG ?_
  refine R.y5 (p:=q) (left:=(l1++l2).map keyS) (r:=r1) n1 hpm rfl rfl (ah (by (simp only [go_sem]))) rfl (by simp [St.map,lk]) (by simp [St.map,lk,up,e1,e2,e3,f1,f2,hz,e4,e5,e6,e7]) ?_
  have hstep:=qj (g:=fun q1=>m2.flatMap (iH la lb q1)) hL' q
  have hpre:=vK (A:=[]) (g:=fun q1=>m2.flatMap (iH la lb q1)) ho hp2 hL'
  have hq1:=s1 q hpm
  have hx:=hr1 q hpm
  refine aNF ?_
  refine R.scope (fun _ _ _ h=>h) ?_
  refine aNF ?_
  refine R.label ?_
  apply ev8; simp only [go_sem,Int.toNat_one,aex]
  repeat refine ⟨by omega,?_⟩
  refine R.yZ m2 rfl rfl rfl (by (simp only [go_sem])) rfl (by simp [St.map,lk,up,e1,e2,e3,f1,f2,hz,e4,e5,e6,e7]) (by show (oq abZ 95).isSome=true; rw [pO]; rfl) fun b2 hb1 hb2=>?_
  have g0:=bK (eu (q:=b) (x:=.it r1 ((l1++l2).map keyS) (some (keyS q))) hb2 (by simp [St.map,lk,up]))
  have g4:=bK (eu (q:=r) (x:=.map (aI (bJ L'))) hb2 (by simp [St.map,lk,up,e1,e2,e3,f1,f2,hz,e4,e5,e6,e7]))
  have g5:=bK (eu (q:=r1) (x:=.map (aI m1)) hb2 (by simp [St.map,lk,up,e1,e2,e3,f1,f2,hz,e4,e5,e6,e7]))
  have g6:=bK (eu (q:=r2) (x:=.map (aI m2)) hb2 (by simp [St.map,lk,up,e1,e2,e3,f1,f2,hz,e4,e5,e6,e7]))
  have g7:=bK (eu (q:=rl) (x:=.map (nY (jE la))) hb2 (by simp [St.map,lk,up,e1,e2,e3,f1,f2,hz,e4,e5,e6,e7]))
  clear hb1 hb2
  refine aNF ?_
  refine R.vk (fun (z:AM × AM × bC × Option Value) s=>{ St.lp [1,2,3,6,8,39,48,107] [] [1,5,8] [] [] [] s with maps:=[(b2,.it r2 (z.2.1.map keyS) z.2.2.2),(b,.it r1 ((l1++l2).map keyS) (some (keyS q))),(r,.map (aI (bJ z.2.2.1))),(rl,.map (nY (jE la))),(r1,.map (aI m1)),(r2,.map (aI m2))] }) (fun (z:AM × AM × bC × Option Value)=>(z.1++z.2.1).Perm m2∧z.2.2.1.Perm (L' ++ z.1.flatMap (iH la lb q))) (fun (z:AM × AM × bC × Option Value)=>z.2.1.length) (([],m2,L',none)) (⟨.refl _,by simp⟩) (by (simp only [go_sem,e1,e2,e3,f1,f2,hz,e4,e5,e6,e7,g0,g4,g5,g6,g7]); all_goals (and_intros <;> first | rfl | simp)) ?_
  rintro ⟨done2,akb,L2,KT⟩ ⟨hp3,hL3⟩
  simp only at hp3 hL3
  refine aNF ?_
  refine R.Gx (m:=m2) (r:=r2) (cur:=KT) (left:=akb) (done:=done2) n2 hp3 rfl rfl (ah (by (simp only [go_sem]))) rfl (by simp [St.map,lk]) (by simp [St.map,lk,e1,e2,e3,f1,f2,hz,e4,e5,e6,e7,g0,g4,g5,g6,g7]) (fun hz1=>?_) (fun l3 q' l4 hz1 abn hp4=>?_)
  ·subst hz1
   have hL4:L2.Perm (L' ++ m2.flatMap (iH la lb q)):=hL3.trans (apc _ (ak1 _ (by simpa using hp3)))
   have hL5:L2.Perm ([]++(done++[q]).flatMap fun q1=>m2.flatMap (iH la lb q1)):=hL4.trans hstep
   refine aNG ?_
   refine R.fE (done++[q],l1++l2,L2,some (keyS q)) ⟨hp2,hL5⟩ (hm:=by (subst hz0; show _<_; simp <;> omega)) (l:=by (simp only [go_sem,e1,e2,e3,f1,f2,hz,e4,e5,e6,e7,g0,g4,g5,g6,g7]); all_goals (and_intros <;> rfl))
  ·refine aNG ?_
   refine R.y5 (p:=q') (left:=(l3++l4).map keyS) (r:=r2) n2 abn rfl rfl (ah (by (simp only [go_sem]))) rfl (by simp [St.map,lk]) (by simp [St.map,lk,up,e1,e2,e3,f1,f2,hz,e4,e5,e6,e7,g0,g4,g5,g6,g7]) ?_
   have hstep2:=qj (g:=iH la lb q) hL3 q'
   have acW:=vK (A:=L') (g:=iH la lb q) hpre hp4 hL3
   have hq2:=s2 q' abn
   have hy:=hr2 q' abn
   refine aNF ?_
   refine R.dW (by rfl) 11 (by rfl) rfl rfl (ah (by (simp only [go_sem]))) (.cons (.pd _) .nil) (YM q.2.row (by rw [hx]; omega)) (fun r' m' h=>by simp [lk] at h) (fun r' h=>by simp at h) ?_
   rintro res M' ⟨rfl,rfl⟩ hh; clear hh
   simp only [Behind]
   apply ev8; simp only [go_sem,anB,e1,e2,e3,f1,f2,hz,e4,e5,e6,e7,g0,g4,g5,g6,g7,Int.toNat_one,aN k1,ama]
   repeat refine ⟨by omega,?_⟩
   refine R.fU (fun (z:Nat × List V) s=>St.lp [1,2,3,6,8,10,39,48,61,62,98,99,100,101,102,103,104,105,107] [(63,.pd (I z.1)),(11,.own 11)] [1,5,8,10] [] [] [(11,⟨76,3,z.2.map val⟩)] s) (fun (z:Nat × List V)=>z.1≤lb.length∧gu la q.2.row ((lb.zip q'.2.row).take z.1) q.2.row=some z.2) (fun (z:Nat × List V)=>lb.length - z.1) ((0,q.2.row)) (⟨by show 0≤_; omega,by simp [gu]⟩) ?_ (by (simp only [go_sem,e1,e2,e3,f1,f2,hz,e4,e5,e6,e7,g0,g4,g5,g6,g7]); all_goals (and_intros <;> rfl))
   rintro ⟨i,out⟩ ⟨hi,hout⟩
   simp only at hi hout
   have hol:=FN _ _ _ _ _ hout
   rw [akY,hx] at hol
   apply aA; simp only [go_sem,ab1,SV.pd.injEq]
   refine ⟨fun h=>?_,fun h=>?_⟩
   ·have hlt:i<lb.length:=by simpa using h
    have hlty:i<q'.2.row.length:=by rw [hy]; exact hlt
    have hlz:i<(lb.zip q'.2.row).length:=by simp; omega
    have hsn:gu la q.2.row ((lb.zip q'.2.row).take (i+1)) q.2.row=gu la q.2.row [(lb[i],q'.2.row[i])] out:=by
     rw [ab3 hlz,zX,hout]; simp
    have hdr:jk la lb q.2.row q'.2.row=(gu la q.2.row [(lb[i],q'.2.row[i])] out).bind (gu la q.2.row ((lb.zip q'.2.row).drop (i+1))):=by
     unfold jk
     conv=>lhs; rw [← akR (i+1) (lb.zip q'.2.row),zX,hsn]
    apply aA; simp only [go_sem,ab1,SV.pd.injEq,getD_map,hlt]
    repeat refine ⟨by omega,?_⟩
    rcases aj9 la hna lb[i].name with ⟨k,hk1,hk2,hlook⟩ | ⟨hk1,hlook⟩
    ·refine R.vU (m:=nY (jE la)) rfl rfl (ah (by (simp only [go_sem]))) rfl (by simp [St.map,lk,e1,e2,e3,f1,f2,hz,e4,e5,e6,e7,g0,g4,g5,g6,g7]) rfl OC hlook ?_
     have hkx:k<q.2.row.length:=by rw [hx]; exact hk2
     refine aNG ?_
     refine R.dB 10 80 mixed (by decide +kernel) ?_; simp only [go_sem,getD_map,hkx,hlty]
     repeat refine ⟨by omega,?_⟩
     refine R.kC (Ll q.2.row[k] 1 q'.2.row[i] 0) rfl rfl (.cons (.pd _) (.cons (.pd _) (.cons (.pd _) (.cons (.pd _) (.nil))))) ?_
     refine aNF ?_
     refine ⟨fun h2=>?_,fun h2=>?_⟩
     ·have hno:iO q.2.row[k] 1 q'.2.row[i] 0=false:=by simpa using h2
      have hnone:jk la lb q.2.row q'.2.row=none:=by
       rw [hdr]; simp [gu,hk1,hkx,hno]
      have hg:iH la lb q q'=[]:=by simp [iH,hnone]
      rw [hg,amG] at hstep2
      refine aNF ?_
      refine R.fE (done2++[q'],l3++l4,L2,some (keyS q')) ⟨hp4,hstep2⟩ (hm:=by (subst hz1; show _<_; simp <;> omega)) (l:=by (simp only [go_sem,e1,e2,e3,f1,f2,hz,e4,e5,e6,e7,g0,g4,g5,g6,g7]); all_goals (and_intros <;> rfl))
     ·have hyes:iO q.2.row[k] 1 q'.2.row[i] 0=true:=by simpa using h2
      have abo:gu la q.2.row ((lb.zip q'.2.row).take (i+1)) q.2.row=some out:=by
       rw [hsn]; simp [gu,hk1,hkx,hyes]
      apply ev8; simp only [go_sem,wrapN (k:=i) (by omega)]
      refine R.fE (i+1,out) ⟨by show i+1≤_; omega,abo⟩ (hm:=by show _<_; simp; omega) (l:=by (simp only [go_sem,e1,e2,e3,f1,f2,hz,e4,e5,e6,e7,g0,g4,g5,g6,g7]); all_goals (and_intros <;> rfl))
    ·refine R.vU (m:=nY (jE la)) rfl rfl (ah (by (simp only [go_sem]))) rfl (by simp [St.map,lk,e1,e2,e3,f1,f2,hz,e4,e5,e6,e7,g0,g4,g5,g6,g7]) rfl OC hlook ?_
     have abo:gu la q.2.row ((lb.zip q'.2.row).take (i+1)) q.2.row=some (out++[q'.2.row[i]]):=by
      rw [hsn]; simp [gu,hk1]
     apply ak; simp only [go_sem,↓reduceIte,getD_map,hlty]
     repeat refine ⟨by omega,?_⟩
     refine R.dL 1000000000 32 rfl rfl (by (simp only [go_sem])) rfl rfl rfl rfl AQ rfl wV (by simp) (congrArg (Option.map List.length) AU) rfl EL (by simp; omega) (by decide) (by decide) ?_
     apply ev8; simp only [go_sem,wrapN (k:=i) (by omega)]
     refine R.fE (i+1,out++[q'.2.row[i]]) ⟨by show i+1≤_; omega,abo⟩ (hm:=by show _<_; simp; omega) (l:=by (simp only [go_sem,e1,e2,e3,f1,f2,hz,e4,e5,e6,e7,g0,g4,g5,g6,g7,aeh,ab9,acH]); all_goals (and_intros <;> rfl))
   ·have hge:lb.length≤i:=by have h':¬ i<lb.length:=(by simpa using h); omega
    have hjr:jk la lb q.2.row q'.2.row=some out:=by
     rw [acw (by simp; omega)] at hout; exact hout
    have hg:iH la lb q q'=[(out,bM (eP q.2.ways q'.2.ways))]:=by simp [iH,hjr]
    rw [hg] at hstep2 acW
    have hm4:=arQ hq1.1 hq2.1
    have hb1:=QM q.2.ways q'.2.ways (fun w hw=>by have:=hq1.2 w hw; unfold mO LY at *; omega) (fun w hw=>by have:=hq2.2 w hw; unfold mO LY at *; omega) (by have:=hq1.1; omega) (by have:=hq2.1; omega) (by omega)
    have hb2:=xK (eP q.2.ways q'.2.ways) ⟨by rw [zV]; omega,fun w hw=>by have:=FK hq1.2 hq2.2 w hw; unfold mO okW at *; omega⟩
    refine aNF ?_
    refine R.bZ 11 rfl rfl ?_
    simp only [go_sem]
    refine R.kW (hb1) rfl rfl (.cons (.pd _) (.cons (.pd _) (.nil))) ?_
    refine aNF ?_
    refine R.kW (hb2) rfl rfl (.cons (.pd _) (.nil)) ?_
    refine aNF ?_
    refine R.dW (by rfl) 60 (by rfl) rfl rfl (ah (by (simp only [go_sem]))) (.cons (.pd _) (.cons (.pd _) (.cons (.pd _) .nil))) (Cb r L2 (out,bM (eP q.2.ways q'.2.ways)) acW) (fun r' m' h=>?_) (fun r' h=>?_) ?_
    ·simp only [lk] at h
     split at h
     ·rename_i e; subst e; cases h; simp [St.map,St.put,St.newVar,lk,up,e1,e2,e3,f1,f2,hz,e4,e5,e6,e7,g0,g4,g5,g6,g7]
     ·cases h
    ·simp only [adh] at h; subst h; exact ⟨by simp [lk],.inl hr1'⟩
    rintro res M' ⟨rfl,rfl⟩ hh; clear hh
    simp only [Behind]
    apply ev8; simp only [go_sem,anB,e1,e2,e3,f1,f2,hz,e4,e5,e6,e7,g0,g4,g5,g6,g7]
    refine R.fE (done2++[q'],l3++l4,L2++[(out,bM (eP q.2.ways q'.2.ways))],some (keyS q')) ⟨hp4,hstep2⟩ (hm:=by (subst hz1; show _<_; simp <;> omega)) (l:=by (simp only [go_sem,e1,e2,e3,f1,f2,hz,e4,e5,e6,e7,g0,g4,g5,g6,g7]); all_goals (and_intros <;> rfl))
def jR (n:ByteArray) (L:bC):List W:=L.flatMap fun x=>if rowB x.1=n then x.2 else []
theorem SE (n:ByteArray) (L:bC) (x:List V × List W):jR n (L++[x])=jR n L++(if rowB x.1=n then x.2 else []):=by simp [jR]
theorem qK {n:ByteArray} {L:bC} {w:W}:w∈jR n L↔∃ x∈L,rowB x.1=n∧w∈x.2:=by
 simp only [jR,afj]
 constructor
 ·rintro ⟨x,hx,h⟩
  split at h
  ·rename_i e; exact ⟨x,hx,e,h⟩
  ·simp at h
 ·rintro ⟨x,hx,e,h⟩
  exact ⟨x,hx,by rw [acA e]; exact h⟩
theorem QT {n:ByteArray} {row:List V} {l:List W}:∀ {m:AM},(m.map (·.1)).Nodup→∀ p∈jy n row l m,(p∈m∧p.1≠n)∨(p.1=n∧p.2.row=row∧((∃ q∈m,q.1=n∧p.2.ways=q.2.ways++l)∨((∀ q∈m,q.1≠n)∧p.2.ways=l)))
 | [],_,p,hp=>by simp only [jy,adh] at hp; subst hp; exact .inr ⟨rfl,rfl,.inr ⟨by simp,rfl⟩⟩
 | (n',a)::m,hn,p,hp=>by
  simp only [ab9,am2] at hn
  simp only [jy] at hp
  split at hp
  ·rename_i e
   subst e
   rcases ae1.1 hp with rfl | hp
   ·exact .inr ⟨rfl,rfl,.inl ⟨(n',a),aeu ..,rfl,rfl⟩⟩
   ·exact .inl ⟨adg _ hp,fun e=>hn.1 (e ▸ acL.2 ⟨p,hp,rfl⟩)⟩
  ·rename_i e
   rcases ae1.1 hp with rfl | hp
   ·exact .inl ⟨aeu ..,e⟩
   ·rcases QT hn.2 p hp with ⟨h1,h2⟩ | ⟨h1,h2,⟨q,hq,h3⟩ | ⟨h3,h4⟩⟩
    ·exact .inl ⟨adg _ h1,h2⟩
    ·exact .inr ⟨h1,h2,.inl ⟨q,adg _ hq,h3⟩⟩
    ·refine .inr ⟨h1,h2,.inr ⟨fun q hq=>?_,h4⟩⟩
     rcases ae1.1 hq with rfl | hq
     ·exact e
     ·exact h3 q hq
theorem zY (L:bC):(∀ p∈bJ L,p.2.ways=jR p.1 L∧∃ x∈L,p.1=rowB x.1∧p.2.row=x.1)∧∀ n,n∈(bJ L).map (·.1)↔∃ x∈L,rowB x.1=n:=by
 refine foldl_rev (P:=fun L m=>(m.map (·.1)).Nodup∧(∀ p∈m,p.2.ways=jR p.1 L∧∃ x∈L,p.1=rowB x.1∧p.2.row=x.1)∧∀ n,n∈m.map (·.1)↔∃ x∈L,rowB x.1=n) ⟨by simp,by simp,by simp⟩ ?_ L |>.2
 rintro L x m ⟨hn,h1,h2⟩
 have hkeys:∀ n,n∈(jy (rowB x.1) x.1 x.2 m).map (·.1)↔∃ y∈L++[x],rowB y.1=n:=by
  intro n
  rw [Fz,h2 n]
  constructor
  ·rintro (rfl | ⟨y,hy,e⟩)
   ·exact ⟨x,by simp,rfl⟩
   ·exact ⟨y,aph _ hy,e⟩
  ·rintro ⟨y,hy,e⟩
   rcases agS.1 hy with hy | hy
   ·exact .inr ⟨y,hy,e⟩
   ·rw [adh.1 hy] at e; exact .inl e.symm
 refine ⟨xQ hn,fun p hp=>?_,hkeys⟩
 rw [SE]
 rcases QT hn p hp with ⟨hm,hne⟩ | ⟨hpn,hrow,hw⟩
 ·obtain ⟨e1,y,hy,e2⟩:=h1 p hm
  exact ⟨by rw [e1,acg (fun e=>hne e.symm),amG],y,aph _ hy,e2⟩
 ·refine ⟨?_,x,by simp,hpn,hrow⟩
  rw [acA hpn.symm]
  rcases hw with ⟨q,hq,JV,e⟩ | ⟨hno,e⟩
  ·rw [e,(h1 q hq).1,JV,hpn]
  ·rw [e]
   have:jR p.1 L=[]:=by
    rw [asw]
    intro w hw
    obtain ⟨y,hy,e2,_⟩:=qK.1 hw
    have:p.1∈m.map (·.1):=(h2 _).2 ⟨y,hy,e2⟩
    obtain ⟨q,hq,e3⟩:=acL.1 this
    exact hno q hq (e3.trans hpn)
   rw [this]; rfl
def sW (L:bC):Prop:=∀ x∈L,∀ y∈L,rowB x.1=rowB y.1→x.1=y.1
theorem xU {L:bC} (hi:sW L) (q:ByteArray × Ans):q∈eF (bJ L)↔∃ x∈L,q=(rowB x.1,⟨x.1,bM (jR (rowB x.1) L)⟩)∧(bM (jR (rowB x.1) L)).length≠0:=by
 obtain ⟨h1,h2⟩:=zY L
 simp only [eF,amJ]
 constructor
 ·rintro ⟨p,hp,hc⟩
  obtain ⟨e1,x,hx,e2,e3⟩:=h1 p hp
  unfold oH at hc
  rw [e1,e2,e3] at hc
  split at hc
  ·cases hc
  ·rename_i hne; cases hc; exact ⟨x,hx,rfl,hne⟩
 ·rintro ⟨x,hx,rfl,hne⟩
  obtain ⟨p,hp,e⟩:=acL.1 ((h2 (rowB x.1)).2 ⟨x,hx,rfl⟩)
  obtain ⟨e1,y,hy,e2,e3⟩:=h1 p hp
  have exy:y.1=x.1:=hi y hy x hx (by rw [← e2,e])
  refine ⟨p,hp,?_⟩
  unfold oH
  rw [e1,e,e3,exy,acg hne]
theorem y9 {m:AM} (h:(m.map (·.1)).Nodup):((eF m).map (·.1)).Nodup:=by
 have:=FH (D:=m.map (·.1)) h
 rwa [JX (fun p hp=>acL.2 ⟨p,hp,rfl⟩)] at this
theorem FP {α β:Type} {f:α→β} {l:List α} (h:(l.map f).Nodup):l.Nodup:=by
 simp only [apy,anO] at h ⊢
 exact h.imp fun h e=>h (by rw [e])
theorem vX {L M:bC} (h:L.Perm M) (n:ByteArray):bM (jR n L)=bM (jR n M):=
 Z7 fun w=>by simp only [qK]; exact ⟨fun ⟨x,hx,r⟩=>⟨x,h.mem_iff.1 hx,r⟩,fun ⟨x,hx,r⟩=>⟨x,h.mem_iff.2 hx,r⟩⟩
theorem sW.perm {L M:bC} (h:L.Perm M) (hi:sW L):sW M:=fun x hx y hy=>hi x (h.mem_iff.2 hx) y (h.mem_iff.2 hy)
theorem Hw {L M:bC} (h:L.Perm M) (hi:sW L):(eF (bJ L)).Perm (eF (bJ M)):=by
 refine (List.perm_ext_iff_of_nodup (FP (y9 (jh L))) (FP (y9 (jh M)))).2 fun q=>?_
 rw [xU hi,xU (hi.perm h)]
 constructor
 ·rintro ⟨x,hx,h1,h2⟩
  rw [vX h] at h1 h2
  exact ⟨x,h.mem_iff.1 hx,h1,h2⟩
 ·rintro ⟨x,hx,h1,h2⟩
  rw [← vX h] at h1 h2
  exact ⟨x,h.mem_iff.2 hx,h1,h2⟩
theorem Hy (L:bC):jU (bJ L)↔(∀ x∈L,(bM (jR (rowB x.1) L)).length≤400)∧(eF (bJ L)).length≤1000:=by
 obtain ⟨h1,h2⟩:=zY L
 unfold jU
 refine and_congr ⟨fun h x hx=>?_,fun h p hp=>?_⟩ Iff.rfl
 ·obtain ⟨p,hp,e⟩:=acL.1 ((h2 (rowB x.1)).2 ⟨x,hx,rfl⟩)
  have:=h p hp
  rw [(h1 p hp).1,e] at this; exact this
 ·obtain ⟨e1,x,hx,e2,_⟩:=h1 p hp
  rw [e1,e2]; exact h x hx
theorem FQ {L M:bC} (h:L.Perm M) (hi:sW L):jU (bJ L)↔jU (bJ M):=by
 rw [Hy,Hy,(Hw h hi).length_eq]
 refine and_congr ⟨fun h1 x hx=>?_,fun h1 x hx=>?_⟩ Iff.rfl
 ·rw [← vX h]; exact h1 x (h.mem_iff.2 hx)
 ·rw [vX h]; exact h1 x (h.mem_iff.1 hx)
def dP (row:List V):Prop:=∀ v∈row,dA v=true
def uV (n:Nat) (w:W):Prop:=(∀ x∈w.pos,0≤x∧x<n)∧∀ x∈w.neg,0≤x∧x<n
def yu (w:W):Prop:=w.pos.Pairwise (· < ·)∧w.neg.Pairwise (· < ·)
structure iw (n c:Nat) (m:AM):Prop where
 nodup:(m.map (·.1)).Nodup
 len:m.length≤1000
 name:∀ q∈m,q.1=rowB q.2.row
 valid:∀ q∈m,dP q.2.row
 width:∀ q∈m,q.2.row.length=c
 few:∀ q∈m,q.2.ways.length≤400
 some:∀ q∈m,q.2.ways≠[]
 xu:∀ q∈m,∀ w∈q.2.ways,uV n w
 min:∀ q∈m,bM q.2.ways=q.2.ways
structure Adds (n c:Nat) (L:bC):Prop where
 valid:∀ x∈L,dP x.1
 width:∀ x∈L,x.1.length=c
 xu:∀ x∈L,∀ w∈x.2,uV n w
 o7:∀ x∈L,∀ w∈x.2,yu w
 sum:sumW L≤500000000000
theorem abp {n:Nat} {w:W} (h:uV n w):uV n (jK w):=⟨fun x hx=>h.1 x ((Ip x _).1 hx),fun x hx=>h.2 x ((Ip x _).1 hx)⟩
theorem L6 {n:Nat} {l:List W} (h:∀ w∈l,uV n w):∀ w∈bM l,uV n w:=by
 intro w hw
 obtain ⟨y,hy,rfl⟩:=IY hw
 exact abp (h y hy)
theorem abq {n:Nat} {x y:W} (hx:uV n x) (hy:uV n y):uV n (qJ x y):=
 ⟨fun z hz=>(agS.1 hz).elim (hx.1 z) (hy.1 z),fun z hz=>(agS.1 hz).elim (hx.2 z) (hy.2 z)⟩
theorem QU {n:Nat} {a b:List W} (ha:∀ w∈a,uV n w) (hb:∀ w∈b,uV n w):∀ w∈eP a b,uV n w:=by
 intro w hw
 simp only [eP,afj,acL] at hw
 obtain ⟨x,hx,y,hy,rfl⟩:=hw
 exact abq (ha x hx) (hb y hy)
theorem J4 {n:Nat}:∀ (l:List Int) (a:Int),l.Pairwise (· < ·)→(∀ x∈l,a≤x∧x<n)→(l.length:Int)≤(n:Int) - a∨l=[]
 | [],_,_,_=>.inr rfl
 | x::l,a,h,hx=>by
  rw [aob] at h
  have h1:=hx x (aeu ..)
  rcases J4 l (x+1) h.2 (fun y hy=>⟨by have:=h.1 y hy; omega,(hx y (adg _ hy)).2⟩) with h2 | rfl
  ·left; simp only [aey]; omega
  ·left; simp only [aey,akO]; omega
theorem zZ {n:Nat} {l:List Int} (h:l.Pairwise (· < ·)) (hx:∀ x∈l,0≤x∧x<n):l.length≤n:=by
 rcases J4 l 0 h hx with h1 | rfl
 ·omega
 ·simp
theorem vY {l:List W} {w:W} (h:w∈bM l):w.pos.Pairwise (· < ·)∧w.neg.Pairwise (· < ·):=by
 obtain ⟨y,_,rfl⟩:=IY h
 exact ⟨qZ _,qZ _⟩
theorem iw.lens {n c:Nat} {m:AM} (h:iw n c m) (hn:n≤1000000):FM m:=by
 refine fun q hq=>⟨h.few q hq,fun w hw=>?_⟩
 have hi:=h.xu q hq w hw
 rw [← h.min q hq] at hw
 obtain ⟨h1,h2⟩:=vY hw
 have a:=zZ h1 hi.1; have b:=zZ h2 hi.2
 exact ⟨by omega,by omega⟩
theorem iw.o7 {n c:Nat} {m:AM} (h:iw n c m):∀ q∈m,∀ w∈q.2.ways,yu w:=fun q hq w hw=>by
 rw [← h.min q hq] at hw; exact vY hw
theorem abr (row:List V) (c:Nat) (h:∀ v∈row,(bytes (bG v)).length+1≤c):(iE row).length≤c * row.length:=by
 induction row with
 | nil=>simp [iE]
 | cons v l ih=>
  have h1:=h v (aeu ..)
  have h2:=ih fun u hu=>h u (adg _ hu)
  have:iE (v::l)=bytes (bG v)++[32]++iE l:=rfl
  rw [this]
  simp only [adb,aey,akO,Nat.mul_add,anD]; omega
theorem abt (l:List UInt8):(aW l).length≤2 * l.length:=by
 induction l with
 | nil=>simp [aW]
 | cons c l ih=>
  have:aW (c::l)=iC c++aW l:=rfl
  rw [this,adb,aey]
  have:(iC c).length≤2:=by unfold iC; repeat' split
                           all_goals simp
  omega
theorem Nu {v:V} (h:dA v=true):(bytes (bG v)).length+1≤404:=by
 have hn:=Ul h
 unfold bG
 rw [h]
 simp only [apR,akX,akS]
 split
 ·rename_i hk
  have ht:v.text.size≤200:=by
   unfold dA at h
   simp [hk] at h
   exact h.1
  have:=abt (bytes v.text)
  have hb:(bytes v.text).length=v.text.size:=Array.length_toList
  simp only [pX,bytes,aey,adb,akO] at this hb ⊢
  omega
 ·split
  ·have:=as5 v.n (by omega) (by omega)
   simp only [bytes]; omega
  ·split
   ·have:=as5 v.n (by omega) (by omega)
    simp only [bytes,aey]; omega
   ·split
    ·have:(aqa (v.n == 1)).length≤5:=by cases (v.n == 1) <;> decide
     simp only [bytes]; omega
    ·simp [bytes]
theorem QV {row:List V} (h:dP row) (hl:row.length≤200000000):VW row:=by
 refine ⟨by omega,?_⟩
 have:=abr row 404 fun v hv=>Nu (h v hv)
 omega
theorem Adds.ok {n c:Nat} {L:bC} (h:Adds n c L) (hc:c≤200000000):okD L:=⟨fun x hx=>QV (h.valid x hx) (by rw [h.width x hx]; exact hc),h.sum⟩
theorem Adds.perm {n c:Nat} {L M:bC} (p:L.Perm M) (h:Adds n c L):Adds n c M:=⟨fun x hx=>h.valid x (p.mem_iff.2 hx),fun x hx=>h.width x (p.mem_iff.2 hx),fun x hx=>h.xu x (p.mem_iff.2 hx),fun x hx=>h.o7 x (p.mem_iff.2 hx),by rw [← Nr p]; exact h.sum⟩
theorem Adds.zS {n c:Nat} {L:bC} (h:Adds n c L) (hn:n≤1000000):∀ p∈bJ L,zS p.2.ways:=by
 intro p hp
 refine ⟨by have:=Ns L p hp; have:=h.sum; omega,fun w hw=>?_⟩
 rw [((zY L).1 p hp).1] at hw
 obtain ⟨x,hx,_,hw⟩:=qK.1 hw
 have h1:=h.xu x hx w hw; have h2:=h.o7 x hx w hw
 have a:=zZ h2.1 h1.1; have b:=zZ h2.2 h1.2
 exact ⟨by omega,by omega⟩
theorem Adds.clo {n c:Nat} {L:bC} (h:Adds n c L) (ho:jU (bJ L)):iw n c (eF (bJ L)):=by
 obtain ⟨h1,h2⟩:=zY L
 have hm:∀ q∈eF (bJ L),∃ p∈bJ L,∃ x∈L,q=(rowB x.1,⟨x.1,bM p.2.ways⟩)∧p.2.ways=jR p.1 L∧(bM p.2.ways).length≠0:=by
  intro q hq
  obtain ⟨p,hp,hc⟩:=amJ.1 hq
  obtain ⟨e1,x,hx,e2,e3⟩:=h1 p hp
  unfold oH at hc
  split at hc
  ·cases hc
  ·rename_i hne; cases hc; exact ⟨p,hp,x,hx,by rw [e2,e3],e1,hne⟩
 refine ⟨y9 (jh L),ho.2,fun q hq=>?_,fun q hq=>?_,fun q hq=>?_,fun q hq=>?_,fun q hq=>?_,fun q hq=>?_,fun q hq=>?_⟩
 all_goals obtain ⟨p,hp,x,hx,rfl,e1,hne⟩:=hm q hq
 ·rfl
 ·exact h.valid x hx
 ·exact h.width x hx
 ·exact ho.1 p hp
 ·intro e
  have e:bM p.2.ways=[]:=e
  exact hne (by rw [e]; rfl)
 ·refine L6 fun w hw=>?_
  rw [e1] at hw
  obtain ⟨y,hy,_,h3⟩:=qK.1 hw
  exact h.xu y hy w h3
 ·exact XC _
def kM (t:Int) (facts:List bQ):bC:=facts.zipIdx.flatMap fun q=>if q.1.table=t then [(q.1.row,[⟨[(q.2:Int)],[]⟩])] else []
def bY (p:Plan) (facts:List bQ) (ms:List AM):Option bC:=
 if p.kind=1 then some (kM p.table facts) else match p.kids,ms with
 | [_],[m]=>if p.kind=2 then some (m.flatMap (oQ p)) else if p.kind=3 then some (m.flatMap (o8 p)) else some (gq m)
 | [k0,k1],[m1,m2]=>if p.kind=4 then some (m1.flatMap fun q=>m2.flatMap (iH k0.attrs k1.attrs q)) else if p.kind=5 then some (gq m1++gq m2)
   else if m1.all fun q=>(gZ m2 q).isSome then some (m1.flatMap (jQ m2)) else none
 | _,_=>none
def Aa (facts:List bQ):Nat→Plan→AM→Prop
 | 0,_,_=>False
 | n+1,p,m=>∃ ms:List AM,ms.length=p.kids.length∧(∀ i (h:i<p.kids.length) (h2:i<ms.length),Aa facts n p.kids[i] ms[i])∧∃ L0 L,bY p facts ms=some L0∧L.Perm L0∧jU (bJ L)∧m=eF (bJ L)
def Nv (facts:List bQ):Nat→Plan→Prop
 | 0,_=>False
 | n+1,p=>(∃ i,∃ h:i<p.kids.length,Nv facts n p.kids[i])∨∃ ms:List AM,ms.length=p.kids.length∧(∀ i (h:i<p.kids.length) (h2:i<ms.length),Aa facts n p.kids[i] ms[i]) ∧
   (bY p facts ms=none∨∃ L0 L,bY p facts ms=some L0∧L.Perm L0∧¬ jU (bJ L))
def iI (tl:List bU) (facts:List bQ):Prop:=facts.length≤4000∧∀ f∈facts,0≤f.table∧∃ h:f.table.toNat<tl.length,fitsV (tl[f.table.toNat]).attrs f.row=true
inductive Shape (tl:List bU) (n:Nat) (p:Plan):Prop
 | table (hk:p.kind=1) (hks:p.kids=[]) (h0:0≤p.table) (h1:p.table.toNat<tl.length) (hl:p.attrs.length=(tl[p.table.toNat]).attrs.length)
 | sel (hk:p.kind=2) (q:Plan) (hks:p.kids=[q]) (hq:aX n tl q=true) (hs:Fa p q=true) (hl:p.attrs.length=q.attrs.length)
 | proj (hk:p.kind=3) (q:Plan) (hks:p.kids=[q]) (hq:aX n tl q=true) (hc:∀ c∈p.cols,0≤c∧c.toNat<q.attrs.length) (hl:p.attrs.length=p.cols.length)
 | join (hk:p.kind=4) (q r:Plan) (hks:p.kids=[q,r]) (hq:aX n tl q=true) (hr:aX n tl r=true) (hn:(q.attrs.map (·.name)).Nodup) (hl:∃ l,mY q.attrs q.attrs r.attrs=some l∧p.attrs.length=l.length)
 | union (hk:p.kind=5) (q r:Plan) (hks:p.kids=[q,r]) (hq:aX n tl q=true) (hr:aX n tl r=true) (hl:p.attrs.length=q.attrs.length) (hl2:p.attrs.length=r.attrs.length)
 | minus (hk:p.kind=6) (q r:Plan) (hks:p.kids=[q,r]) (hq:aX n tl q=true) (hr:aX n tl r=true) (hl:p.attrs.length=q.attrs.length) (hl2:p.attrs.length=r.attrs.length)
 | ren (hk:p.kind=7) (q:Plan) (hks:p.kids=[q]) (hq:aX n tl q=true) (hl:p.attrs.length=q.attrs.length)
theorem DJ {a b:List Attr} (h:nC a b=true):a.length=b.length:=by
 unfold nC at h; simp at h; exact h.1
theorem Nw {α:Type} (l:List α):∀ (cs:List Int) (out:List α),dM l cs=some out→∀ c∈cs,0≤c∧c.toNat<l.length
 | [],_,_,c,hc=>by simp at hc
 | x::cs,out,h,c,hc=>by
  simp only [dM] at h
  split at h
  ·rename_i hx
   rcases ae1.1 hc with rfl | hc
   ·exact hx
   ·cases e:dM l cs with
    | none=>simp [e] at h
    | some o=>exact Nw l cs o e c hc
  ·cases h
theorem Gy (a b:ByteArray):eqS a b=true↔a=b:=by
 unfold eqS
 rw [an0]
 constructor
 ·intro h
  have:a.data.toList=b.data.toList:=by
   have h1:∀ c:ByteArray,c.toList=c.data.toList:=fun c=>ByteArray.toList_eq c
   rw [← h1,← h1,h]
  cases a; cases b; congr 1; exact Array.toList_inj.1 this
 ·rintro rfl; rfl
theorem QW {l:List Attr} (h:BQ l=true):(l.map (·.name)).Nodup:=by
 unfold BQ at h
 rw [aeA] at h
 rw [apy,anO,aeJ]
 intro i j hi hj hij e
 have h1:=h (l[j],j) (by rw [auL]; exact ⟨j,by simpa using hj,by simp⟩)
 simp only [aon] at h1
 have h2:kG l l[j].name≤(i:Int):=by
  unfold kG jv
  cases hf:l.findIdx? (fun t=>eqS t.name l[j].name) with
  | none=>simp <;> omega
  | some k=>
   rw [anc] at hf
   obtain ⟨hk,_,hmin⟩:=hf
   simp only
   rcases amR i k with hlt | hge
   ·have:=hmin i hlt
    rw [(Gy _ _).2 e] at this; simp at this
   ·omega
 omega
theorem qo {α:Type}:∀ {l:List α},l.length=2→∃ q r,l=[q,r]
 | [q,r],_=>⟨q,r,rfl⟩
theorem mP {tl:List bU} {n:Nat} {p:Plan} (h:aX (n+1) tl p=true) (h8:p.kind≠8):Shape tl n p:=by
 simp only [aX,aeC,aon] at h
 obtain ⟨⟨⟨⟨hk,hks⟩,_⟩,_⟩,hw⟩:=h
 rw [aeA] at hks
 cases jr:je tl p with
 | none=>rw [jr] at hw; cases hw
 | some l=>
  rw [jr] at hw
  have hl:=DJ hw
  unfold je at jr
  unfold Fg at hk
  by_cases h1:p.kind=1
  ·simp only [h1,afi,acX] at hk
   rw [acA h1] at jr
   unfold sO at jr
   split at jr
   ·rename_i hc
    cases jr
    refine .table h1 (aip.1 hk.symm) hc.1 hc.2 ?_
    rw [← hl]; simp [IB]
   ·cases jr
  rw [acg h1] at jr hk
  by_cases h4:p.kind=4∨p.kind=5∨p.kind=6
  ·have hk2:p.kids.length=2:=by
    rcases h4 with h | h | h <;> simp [h] at hk <;> omega
   obtain ⟨q,r,hqr⟩:=qo hk2
   have hq:=hks q (by rw [hqr]; simp)
   have hr:=hks r (by rw [hqr]; simp)
   rw [hqr] at jr
   simp only at jr
   rcases h4 with h | h | h
   ·rw [acA h] at jr
    refine .join h q r hqr hq hr ?_ ⟨l,jr,hl.symm⟩
    cases n with
    | zero=>simp [aX] at hq
    | succ n=>
     simp only [aX,aeC] at hq
     exact QW hq.1.2
   ·rw [acg (by omega),acA (.inl h)] at jr
    unfold yS at jr
    split at jr
    ·rename_i ha; cases jr
     exact .union h q r hqr hq hr hl.symm (by rw [← hl]; exact DJ ha)
    ·cases jr
   ·rw [acg (by omega),acA (.inr h)] at jr
    unfold yS at jr
    split at jr
    ·rename_i ha; cases jr
     exact .minus h q r hqr hq hr hl.symm (by rw [← hl]; exact DJ ha)
    ·cases jr
  by_cases h2:p.kind=2∨p.kind=3∨p.kind=7
  ·have hk2:p.kids.length=1:=by
    rcases h2 with h | h | h <;> simp [h] at hk <;> omega
   obtain ⟨q,hqr⟩:=aeT.1 hk2
   have hq:=hks q (by rw [hqr]; simp)
   rw [hqr] at jr
   simp only at jr
   rcases h2 with h | h | h
   ·rw [acA h] at jr
    unfold yS at jr
    split at jr
    ·rename_i ha; cases jr
     exact .sel h q hqr hq ha hl.symm
    ·cases jr
   ·rw [acg (by omega),acA h] at jr
    exact .proj h q hqr hq (Nw _ _ _ jr) (by rw [← hl]; exact sK _ _ _ jr)
   ·rw [acg (by omega),acg (by omega),acA h] at jr
    unfold sN at jr
    split at jr
    ·rename_i hc; cases jr
     exact .ren h q hqr hq hc.2
    ·cases jr
  ·exfalso
   have:¬ (p.kind=2∨p.kind=3∨p.kind=4∨p.kind=5∨p.kind=6∨p.kind=7∨p.kind=8):=by omega
   rw [acg (by omega),acg (by omega),acg (by omega),acg (by omega),acg (by omega),acg (by omega),acg h8] at hk
   cases hk
theorem J5 {l:List Attr} {row:List V} (h:fitsV l row=true):row.length=l.length∧dP row:=by
 unfold fitsV at h
 simp only [aeC,aon] at h
 refine ⟨h.1,fun v hv=>?_⟩
 obtain ⟨i,hi,rfl⟩:=aeF hv
 have:=(aeA.1 h.2) (l[i]'(by omega),row[i]) (by rw [auL]; exact ⟨i,by simp; omega,by simp⟩)
 unfold AY at this
 simp only [aeC] at this
 exact this.1
theorem oN {α:Type} (c:Nat) (g:α→bC):∀ (l:List α),(∀ x∈l,sumW (g x)≤c)→sumW (l.flatMap g)≤c * l.length
 | [],_=>by simp [sumW]
 | x::l,h=>by
  have h1:=h x (aeu ..)
  have h2:=oN c g l fun y hy=>h y (adg _ hy)
  rw [an4,IV,aey,Nat.mul_add,anD]; omega
theorem rV (row:List V) (l:List W):sumW [(row,l)]=l.length:=by simp [sumW]
theorem VX {tl:List bU} {facts:List bQ} (hf:iI tl facts) {t:Int} (h0:0≤t) (h1:t.toNat<tl.length):Adds facts.length (tl[t.toNat]).attrs.length (kM t facts):=by
 have hm:∀ x∈kM t facts,∃ i,∃ h:i<facts.length,facts[i].table=t∧x=(facts[i].row,[⟨[(i:Int)],[]⟩]):=by
  intro x hx
  simp only [kM,afj] at hx
  obtain ⟨⟨f,i⟩,hq,hx⟩:=hx
  split at hx
  ·rename_i e
   obtain ⟨hi,hfi⟩:=List.mem_zipIdx' hq
   exact ⟨i,hi,by rw [← hfi]; exact e,by rw [← hfi]; simpa using hx⟩
  ·simp at hx
 have hrow:∀ i (h:i<facts.length),facts[i].table=t→facts[i].row.length=(tl[t.toNat]).attrs.length∧dP facts[i].row:=by
  intro i h e
  obtain ⟨_,h3,h4⟩:=hf.2 facts[i] (acn h)
  have:=J5 h4
  simp only [e] at this
  exact this
 refine ⟨fun x hx=>?_,fun x hx=>?_,fun x hx w hw=>?_,fun x hx w hw=>?_,?_⟩
 ·obtain ⟨i,hi,e,rfl⟩:=hm x hx; exact (hrow i hi e).2
 ·obtain ⟨i,hi,e,rfl⟩:=hm x hx; exact (hrow i hi e).1
 ·obtain ⟨i,hi,e,rfl⟩:=hm x hx
  rw [adh.1 hw]
  exact ⟨fun z hz=>by rw [adh.1 hz]; omega,fun z hz=>by simp at hz⟩
 ·obtain ⟨i,hi,e,rfl⟩:=hm x hx
  rw [adh.1 hw]
  exact ⟨by simp,by simp⟩
 ·have:=oN 1 (fun q:bQ × Nat=>if q.1.table=t then [(q.1.row,[(⟨[(q.2:Int)],[]⟩:W)])] else []) facts.zipIdx (fun q _=>by by_cases h:q.1.table=t <;> simp [h,sumW])
  have hl:=hf.1
  simp only [as7] at this
  unfold kM; omega
theorem I4 {n c:Nat} {m:AM} (h:iw n c m):Adds n c (gq m):=by
 refine ⟨fun x hx=>?_,fun x hx=>?_,fun x hx=>?_,fun x hx=>?_,?_⟩
 ·obtain ⟨q,hq,hx⟩:=afj.1 hx
  rw [adh.1 hx]; exact h.valid q hq
 ·obtain ⟨q,hq,hx⟩:=afj.1 hx
  rw [adh.1 hx]; exact h.width q hq
 ·obtain ⟨q,hq,hx⟩:=afj.1 hx
  rw [adh.1 hx]; exact h.xu q hq
 ·obtain ⟨q,hq,hx⟩:=afj.1 hx
  rw [adh.1 hx]; exact h.o7 q hq
 ·have:sumW (gq m)≤400 * m.length:=oN 400 add1 m fun q hq=>by rw [rV]; exact h.few q hq
  have:=h.len; omega
theorem abu {n c:Nat} {L M:bC} (h1:∀ x∈L,dP x.1∧x.1.length=c∧(∀ w∈x.2,uV n w)∧∀ w∈x.2,yu w) (h2:∀ x∈M,dP x.1∧x.1.length=c∧(∀ w∈x.2,uV n w)∧∀ w∈x.2,yu w) (hs:sumW L+sumW M≤500000000000):Adds n c (L++M):=
 ⟨fun x hx=>(agS.1 hx).elim (fun h=>(h1 x h).1) (fun h=>(h2 x h).1),fun x hx=>(agS.1 hx).elim (fun h=>(h1 x h).2.1) (fun h=>(h2 x h).2.1),fun x hx=>(agS.1 hx).elim (fun h=>(h1 x h).2.2.1) (fun h=>(h2 x h).2.2.1),fun x hx=>(agS.1 hx).elim (fun h=>(h1 x h).2.2.2) (fun h=>(h2 x h).2.2.2),by rw [IV]; exact hs⟩
theorem VY {n c:Nat} {m1 m2:AM} (h1:iw n c m1) (h2:iw n c m2):Adds n c (gq m1++gq m2):=by
 have a:=I4 h1; have b:=I4 h2
 refine abu (fun x hx=>⟨a.valid x hx,a.width x hx,a.xu x hx,a.o7 x hx⟩) (fun x hx=>⟨b.valid x hx,b.width x hx,b.xu x hx,b.o7 x hx⟩) ?_
 have s1:sumW (gq m1)≤400 * m1.length:=oN 400 add1 m1 fun q hq=>by rw [rV]; exact h1.few q hq
 have s2:sumW (gq m2)≤400 * m2.length:=oN 400 add1 m2 fun q hq=>by rw [rV]; exact h2.few q hq
 have:=h1.len; have:=h2.len; omega
theorem abv {n c:Nat} {m:AM} (p:Plan) (h:iw n c m):Adds n c (m.flatMap (oQ p)):=by
 have hm:∀ x∈m.flatMap (oQ p),∃ q∈m,x=(q.2.row,q.2.ways):=by
  intro x hx
  obtain ⟨q,hq,hx⟩:=afj.1 hx
  unfold oQ at hx
  split at hx
  ·simp at hx
  ·exact ⟨q,hq,adh.1 hx⟩
 refine ⟨fun x hx=>?_,fun x hx=>?_,fun x hx=>?_,fun x hx=>?_,?_⟩
 ·obtain ⟨q,hq,rfl⟩:=hm x hx; exact h.valid q hq
 ·obtain ⟨q,hq,rfl⟩:=hm x hx; exact h.width q hq
 ·obtain ⟨q,hq,rfl⟩:=hm x hx; exact h.xu q hq
 ·obtain ⟨q,hq,rfl⟩:=hm x hx; exact h.o7 q hq
 ·have:=oN 400 (oQ p) m fun q hq=>by
   unfold oQ
   split
   ·simp [sumW]
   ·rw [rV]; exact h.few q hq
  have:=h.len; omega
theorem YN {n c:Nat} {m:AM} (p:Plan) (h:iw n c m) (hc:∀ x∈p.cols,0≤x∧x.toNat<c):Adds n p.cols.length (m.flatMap (o8 p)):=by
 have hm:∀ x∈m.flatMap (o8 p),∃ q∈m,x=(aQ q.2.row p.cols,q.2.ways):=by
  intro x hx
  obtain ⟨q,hq,hx⟩:=afj.1 hx
  exact ⟨q,hq,adh.1 hx⟩
 refine ⟨fun x hx=>?_,fun x hx=>?_,fun x hx=>?_,fun x hx=>?_,?_⟩
 ·obtain ⟨q,hq,rfl⟩:=hm x hx
  intro v hv
  obtain ⟨y,hy,rfl⟩:=acL.1 hv
  have h1:=(hc y hy).2
  have hw:=h.width q hq
  have:q.2.row.getD y.toNat V.zero=q.2.row[y.toNat]:=by simp [hw,h1]
  rw [this]
  exact h.valid q hq _ (acn (by omega))
 ·obtain ⟨q,hq,rfl⟩:=hm x hx; simp [aQ]
 ·obtain ⟨q,hq,rfl⟩:=hm x hx; exact h.xu q hq
 ·obtain ⟨q,hq,rfl⟩:=hm x hx; exact h.o7 q hq
 ·have:=oN 400 (o8 p) m fun q hq=>by rw [o8,rV]; exact h.few q hq
  have:=h.len; omega
theorem J6:∀ (ys l l':List W),dV l ys=some l'→l.length≤400→l'.length≤400
 | [],l,l',h,h4=>by simp only [dV,acX] at h; subst h; exact h4
 | y::ys,l,l',h,h4=>by
  simp only [dV] at h
  split at h
  ·rename_i h1; exact J6 ys _ l' h h1
  ·cases h
theorem Ny {n:Nat}:∀ (ys l l':List W),dV l ys=some l'→(∀ w∈l,uV n w)→(∀ w∈ys,uV n w)→∀ w∈l',uV n w
 | [],l,l',h,hl,_=>by simp only [dV,acX] at h; subst h; exact hl
 | y::ys,l,l',h,hl,hy=>by
  simp only [dV] at h
  split at h
  ·refine Ny ys _ l' h (L6 (QU hl fun w hw=>?_)) fun w hw=>hy w (adg _ hw)
   have hyy:=hy y (aeu ..)
   simp only [oU,agS,acL] at hw
   rcases hw with ⟨v,hv,rfl⟩ | ⟨v,hv,rfl⟩
   ·exact ⟨fun z hz=>by simp [qm] at hz,fun z hz=>by simp [qm] at hz; subst hz; exact hyy.1 _ hv⟩
   ·exact ⟨fun z hz=>by simp [uN] at hz; subst hz; exact hyy.2 _ hv,fun z hz=>by simp [uN] at hz⟩
  ·cases h
theorem J7:∀ (ys l l':List W),dV l ys=some l'→(∀ w∈l,yu w)→∀ w∈l',yu w
 | [],l,l',h,hl=>by simp only [dV,acX] at h; subst h; exact hl
 | y::ys,l,l',h,hl=>by
  simp only [dV] at h
  split at h
  ·exact J7 ys _ l' h fun w hw=>vY hw
  ·cases h
theorem YO {m:AM} {x:ByteArray} {l:List W} (h:oG x m=some l):∃ q∈m,q.1=x∧q.2.ways=l:=by
 induction m with
 | nil=>cases h
 | cons q m ih=>
  obtain ⟨y,a⟩:=q
  simp only [oG] at h
  split at h
  ·rename_i e; cases h; exact ⟨(y,a),aeu ..,e,rfl⟩
  ·obtain ⟨q,hq,h2⟩:=ih h; exact ⟨q,adg _ hq,h2⟩
theorem Nz {n c d:Nat} {m1 m2:AM} (h1:iw n c m1) (h2:iw n d m2) {q:ByteArray × Ans} (hq:q∈m1):((gZ m2 q).getD []).length≤400∧∀ w∈(gZ m2 q).getD [],uV n w:=by
 cases e:gZ m2 q with
 | none=>simp
 | some l=>
  unfold gZ at e
  refine ⟨J6 _ _ _ e (h1.few q hq),Ny _ _ _ e (h1.xu q hq) fun w hw=>?_⟩
  cases e2:oG q.1 m2 with
  | none=>rw [e2] at hw; simp at hw
  | some l2=>
   rw [e2] at hw
   obtain ⟨q2,hq2,_,rfl⟩:=YO e2
   exact h2.xu q2 hq2 w hw
theorem J8 {n c d:Nat} {m1 m2:AM} (h1:iw n c m1) (h2:iw n d m2):Adds n c (m1.flatMap (jQ m2)):=by
 have hm:∀ x∈m1.flatMap (jQ m2),∃ q∈m1,x=(q.2.row,(gZ m2 q).getD []):=by
  intro x hx
  obtain ⟨q,hq,hx⟩:=afj.1 hx
  exact ⟨q,hq,adh.1 hx⟩
 refine ⟨fun x hx=>?_,fun x hx=>?_,fun x hx=>?_,fun x hx=>?_,?_⟩
 ·obtain ⟨q,hq,rfl⟩:=hm x hx; exact h1.valid q hq
 ·obtain ⟨q,hq,rfl⟩:=hm x hx; exact h1.width q hq
 ·obtain ⟨q,hq,rfl⟩:=hm x hx; exact (Nz h1 h2 hq).2
 ·obtain ⟨q,hq,rfl⟩:=hm x hx
  cases e:gZ m2 q with
  | none=>simp
  | some l=>exact J7 _ _ _ e (h1.o7 q hq)
 ·have:=oN 400 (jQ m2) m1 fun q hq=>by rw [jQ,rV]; exact (Nz h1 h2 hq).1
  have:=h1.len; omega
theorem Ba {la:List Attr} {x:List V} (hx:x.length=la.length):∀ (bs:List Attr) (ys:List V) (out out':List V) (o l:List Attr),ys.length=bs.length→gu la x (bs.zip ys) out=some out'→mY la o bs=some l→out.length=o.length→out'.length=l.length
 | [],[],out,out',o,l,_,h,hj,e=>by simp [gu] at h; simp [mY] at hj; subst h; subst hj; exact e
 | b::bs,y::ys,out,out',o,l,hy,h,hj,e=>by
  simp only [List.zip_cons_cons,gu] at h
  simp only [mY] at hj
  have hfind:(ji la b.name=none↔kG la b.name<0):=by
   unfold ji kG jv
   have:(fun a:Attr=>decide (a.name=b.name))=fun t=>eqS t.name b.name:=by
    funext a
    by_cases h:a.name=b.name
    ·simp [h,(Gy b.name b.name).2 rfl]
    ·have:eqS a.name b.name=false:=by
      cases h2:eqS a.name b.name with
      | false=>rfl
      | true=>exact (h ((Gy _ _).1 h2)).elim
     simp [h,this]
   rw [this]
   cases la.findIdx? (fun t=>eqS t.name b.name) with
   | none=>simp
   | some i=>simp <;> omega
  cases hf:ji la b.name with
  | none=>
   rw [hf] at h
   rw [acA (hfind.1 hf)] at hj
   exact Ba hx bs ys _ out' _ l (by simpa using hy) h hj (by simp [e])
  | some k=>
   rw [hf] at h
   have hc:¬ kG la b.name<0:=fun hc=>by rw [hfind.2 hc] at hf; cases hf
   rw [acg hc] at hj
   split at hj
   ·cases hj
   ·simp only at h
    split at h
    ·exact Ba hx bs ys _ out' _ l (by simpa using hy) h hj e
    ·cases h
theorem Bc {la:List Attr} {x:List V}:∀ (l:List (Attr × V)) (out out':List V),gu la x l out=some out'→dP out→(∀ p∈l,dA p.2=true)→dP out'
 | [],out,out',h,ho,_=>by simp [gu] at h; subst h; exact ho
 | (a,v)::l,out,out',h,ho,hl=>by
  have hl2:=fun p hp=>hl p (adg _ hp)
  simp only [gu] at h
  split at h
  ·split at h
   ·exact Bc l out out' h ho hl2
   ·cases h
  ·refine Bc l _ out' h (fun u hu=>?_) hl2
   rcases agS.1 hu with hu | hu
   ·exact ho u hu
   ·rw [adh.1 hu]; exact hl (a,v) (aeu ..)
theorem NC {α:Type} (c:α→α→Int) (x:α):∀ l:List α,(uF c x l).length≤l.length+1
 | []=>by simp [uF]
 | y::l=>by
  have:=NC c x l
  simp only [uF]
  repeat' split
  all_goals simp <;> omega
theorem J9 {α:Type} (c:α→α→Int):∀ l:List α,(ni c l).length≤l.length
 | []=>by simp [ni]
 | x::l=>by
  have h1:=J9 c l
  have h2:=NC c x (ni c l)
  simp only [ni,List.foldr_cons,aey] at *; omega
theorem SG (l:List W):(bM l).length≤l.length:=
 ahC (J9 _ _) (ahC (apb _ _) (EY l))
theorem YP {n:Nat} {la lb l:List Attr} {m1 m2:AM} (h1:iw n la.length m1) (h2:iw n lb.length m2) (hj:mY la la lb=some l):Adds n l.length (m1.flatMap fun q=>m2.flatMap (iH la lb q)):=by
 have hm:∀ x∈m1.flatMap fun q=>m2.flatMap (iH la lb q),∃ q1∈m1,∃ q2∈m2,∃ row,jk la lb q1.2.row q2.2.row=some row∧x=(row,bM (eP q1.2.ways q2.2.ways)):=by
  intro x hx
  obtain ⟨q1,hq1,hx⟩:=afj.1 hx
  obtain ⟨q2,hq2,hx⟩:=afj.1 hx
  unfold iH at hx
  split at hx
  ·rename_i row hr; exact ⟨q1,hq1,q2,hq2,row,hr,adh.1 hx⟩
  ·simp at hx
 refine ⟨fun x hx=>?_,fun x hx=>?_,fun x hx=>?_,fun x hx=>?_,?_⟩
 ·obtain ⟨q1,hq1,q2,hq2,row,hr,rfl⟩:=hm x hx
  refine Bc _ _ _ hr (h1.valid q1 hq1) fun p hp=>?_
  exact h2.valid q2 hq2 p.2 (List.of_mem_zip hp).2
 ·obtain ⟨q1,hq1,q2,hq2,row,hr,rfl⟩:=hm x hx
  exact Ba (h1.width q1 hq1) lb q2.2.row _ _ _ _ (h2.width q2 hq2) hr hj (h1.width q1 hq1)
 ·obtain ⟨q1,hq1,q2,hq2,row,hr,rfl⟩:=hm x hx
  exact L6 (QU (h1.xu q1 hq1) (h2.xu q2 hq2))
 ·obtain ⟨q1,hq1,q2,hq2,row,hr,rfl⟩:=hm x hx
  exact fun w hw=>vY hw
 ·have hin:∀ q1∈m1,sumW (m2.flatMap (iH la lb q1))≤160000000:=by
   intro q1 hq1
   have:=oN 160000 (iH la lb q1) m2 fun q2 hq2=>by
    unfold iH
    split
    ·rw [rV]
     refine ahC (SG _) ?_
     rw [zV]
     exact ahC (arQ (h1.few q1 hq1) (h2.few q2 hq2)) (by decide)
    ·simp [sumW]
   have:=h2.len; omega
  have:=oN 160000000 (fun q1=>m2.flatMap (iH la lb q1)) m1 hin
  have:=h1.len; omega
theorem zf {tl:List bU} {facts:List bQ} (hf:iI tl facts) {n:Nat} {p:Plan} (hs:Shape tl n p) {ms:List AM} (hl:ms.length=p.kids.length) (hc:∀ i (h:i<p.kids.length) (h2:i<ms.length),iw facts.length p.kids[i].attrs.length ms[i]) {L:bC} (h:bY p facts ms=some L):
  Adds facts.length p.attrs.length L:=by
 unfold bY at h
 cases hs with
 | table hk hks h0 h1 hl'=>
  rw [acA hk] at h; cases h
  rw [hl']; exact VX hf h0 h1
 | sel hk q hks hq hsv hl'=>
  rw [acg (by omega),hks] at h
  rw [hks] at hl
  obtain ⟨m,rfl⟩:=aeT.1 hl
  have c:=hc 0 (by rw [hks]; simp) (by simp)
  simp only [hks,afL] at c
  simp only at h
  rw [acA hk] at h; cases h
  rw [hl']; exact abv p c
 | proj hk q hks hq hcc hl'=>
  rw [acg (by omega),hks] at h
  rw [hks] at hl
  obtain ⟨m,rfl⟩:=aeT.1 hl
  have c:=hc 0 (by rw [hks]; simp) (by simp)
  simp only [hks,afL] at c
  simp only at h
  rw [acg (by omega),acA hk] at h; cases h
  rw [hl']; exact YN p c hcc
 | ren hk q hks hq hl'=>
  rw [acg (by omega),hks] at h
  rw [hks] at hl
  obtain ⟨m,rfl⟩:=aeT.1 hl
  have c:=hc 0 (by rw [hks]; simp) (by simp)
  simp only [hks,afL] at c
  simp only at h
  rw [acg (by omega),acg (by omega)] at h; cases h
  rw [hl']; exact I4 c
 | join hk q r hks hq hr hn hj=>
  rw [acg (by omega),hks] at h
  rw [hks] at hl
  obtain ⟨m1,m2,rfl⟩:=qo hl
  have c1:=hc 0 (by rw [hks]; simp) (by simp)
  have c2:=hc 1 (by rw [hks]; simp) (by simp)
  simp only [hks,afL,amZ] at c1 c2
  simp only at h
  rw [acA hk] at h; cases h
  obtain ⟨l,hj1,hj2⟩:=hj
  rw [hj2]; exact YP c1 c2 hj1
 | union hk q r hks hq hr hl1 hl2=>
  rw [acg (by omega),hks] at h
  rw [hks] at hl
  obtain ⟨m1,m2,rfl⟩:=qo hl
  have c1:=hc 0 (by rw [hks]; simp) (by simp)
  have c2:=hc 1 (by rw [hks]; simp) (by simp)
  simp only [hks,afL,amZ] at c1 c2
  simp only at h
  rw [acg (by omega),acA hk] at h; cases h
  rw [← hl1] at c1; rw [← hl2] at c2
  exact VY c1 c2
 | minus hk q r hks hq hr hl1 hl2=>
  rw [acg (by omega),hks] at h
  rw [hks] at hl
  obtain ⟨m1,m2,rfl⟩:=qo hl
  have c1:=hc 0 (by rw [hks]; simp) (by simp)
  have c2:=hc 1 (by rw [hks]; simp) (by simp)
  simp only [hks,afL,amZ] at c1 c2
  simp only at h
  rw [acg (by omega),acg (by omega)] at h
  split at h
  ·cases h
   rw [hl1]; exact J8 c1 c2
  ·cases h
theorem rX {p:Plan} (h:grp p=false):p.kind≠8∧∀ q∈p.kids,grp q=false:=by
 rw [X7] at h
 simp only [Bool.or_eq_false_iff,anI,anN] at h
 exact ⟨h.1,fun q hq=>by simpa using h.2 q hq⟩
theorem Shape.kids {tl:List bU} {n:Nat} {p:Plan} (h:Shape tl n p):∀ q∈p.kids,aX n tl q=true:=by
 cases h with
 | table _ hks=>rw [hks]; simp
 | sel _ q hks hq=>rw [hks]; simpa using hq
 | proj _ q hks hq=>rw [hks]; simpa using hq
 | ren _ q hks hq=>rw [hks]; simpa using hq
 | join _ q r hks hq hr=>rw [hks]; simp [hq,hr]
 | union _ q r hks hq hr=>rw [hks]; simp [hq,hr]
 | minus _ q r hks hq hr=>rw [hks]; simp [hq,hr]
theorem qL {tl:List bU} {facts:List bQ} (hf:iI tl facts):∀ (n:Nat) (p:Plan) (m:AM),aX n tl p=true→grp p=false→Aa facts n p m→iw facts.length p.attrs.length m
 | 0,_,_,_,_,h=>h.elim
 | n+1,p,m,hv,hg,⟨ms,hl,hk,L0,L,h0,hp,hc,hm⟩=>by
  obtain ⟨h8,hgk⟩:=rX hg
  have hs:=mP hv h8
  have hkc:∀ i (h:i<p.kids.length) (h2:i<ms.length),iw facts.length p.kids[i].attrs.length ms[i]:=fun i h h2=>
   qL hf n _ _ (hs.kids _ (acn h)) (hgk _ (acn h)) (hk i h h2)
  have:=(zf hf hs hl hkc h0).perm hp.symm
  rw [hm]; exact this.clo hc
theorem YQ {n c:Nat} {m:AM} (h:iw n c m):bJ (gq m)=m:=by
 have:∀ (l:AM),(l.map (·.1)).Nodup→(∀ q∈l,q.1=rowB q.2.row)→bJ (gq l)=l:=by
  intro l
  induction hl:l.length generalizing l with
  | zero=>intro _ _; rw [aip.1 hl]; rfl
  | succ k ih=>
   intro hn hq
   rcases List.eq_nil_or_concat l with rfl | ⟨l',q,rfl⟩
   ·simp at hl
   ·simp only [List.concat_eq_append] at hl hn hq ⊢
    simp only [aeh,ab9,acH] at hn
    have hn':=anM.1 hn
    have e:gq (l' ++ [q])=gq l' ++ [(q.2.row,q.2.ways)]:=by simp
    rw [e,FC,ih l' (by simpa using hl) hn'.1 (fun x hx=>hq x (aph _ hx))]
    have JV:=hq q (by simp)
    rw [Fv (fun x hx e2=>hn'.2.2 x.1 (acL.2 ⟨x,hx,rfl⟩) q.1 (by simp) (by rw [e2]; exact JV.symm))]
    rw [← JV]
 exact this m h.nodup h.name
end Go.Proofs.Z
end
section
namespace Go.Proofs.Z
def rY {α:Type} (c:α→α→Int):List α→List α→Int
 | [],[]=>0
 | [],_::_=>-1
 | _::_,[]=>1
 | x::l,y::m=>if c x y≠0 then c x y else rY c l m
theorem YR {α:Type} {c:α→α→Int} (hc:Order c):Order (rY c) where
 eq:=by
  intro a
  induction a with
  | nil=>intro b; cases b <;> simp [rY]
  | cons x l ih=>
   intro b
   cases b with
   | nil=>simp [rY]
   | cons y m=>
    simp only [rY,ab1]
    split
    ·rename_i h; constructor
     ·intro h'; exact (h h').elim
     ·rintro ⟨rfl,_⟩; exact (h ((hc.eq _ _).2 rfl)).elim
    ·rename_i h
     have h:c x y=0:=by simpa using h
     rw [ih]; have:=(hc.eq x y).1 h; simp [this]
 flip:=by
  intro a
  induction a with
  | nil=>intro b; cases b <;> simp [rY]
  | cons x l ih=>
   intro b
   cases b with
   | nil=>simp [rY]
   | cons y m=>
    simp only [rY]
    by_cases h:c x y=0
    ·have e:=(hc.eq x y).1 h; subst e
     simp [h,ih]
    ·have h':c y x≠0:=fun e=>h ((hc.eq _ _).2 ((hc.eq _ _).1 e).symm)
     rw [acA h,acA h']; exact hc.flip x y
 trans:=by
  intro a
  induction a with
  | nil=>intro b d; cases b <;> cases d <;> simp [rY]
  | cons x l ih=>
   intro b d
   cases b with
   | nil=>simp [rY]
   | cons y m=>
    cases d with
    | nil=>simp [rY]
    | cons z n=>
     simp only [rY]
     by_cases h1:c x y=0
     ·have e:=(hc.eq x y).1 h1; subst e
      by_cases h2:c x z=0
      ·simp only [h1,h2,ne_eq,apo,akS]; exact ih m n
      ·simp only [h1,h2,ne_eq,apo,akS,apl,afi]; exact fun _ h=>h
     ·by_cases h2:c y z=0
      ·have e:=(hc.eq y z).1 h2; subst e
       simp only [h1,h2,ne_eq,apo,akS,apl,afi]; exact fun h _=>h
      ·simp only [h1,h2,ne_eq,apl,afi]
       intro h3 h4
       have h5:=hc.trans x y z h3 h4
       rw [acA (by omega)]; exact h5
theorem abw (a b:List V):dn a b=rY oP a b:=by
 induction a generalizing b with
 | nil=>cases b <;> rfl
 | cons x l ih=>cases b with
  | nil=>rfl
  | cons y m=>simp only [dn,rY,ih]
theorem zh (a:ByteArray):iG a a=false:=by simp [iG,List.lt_irrefl]
theorem Hz {a b d:ByteArray} (h1:iG a b=true) (h2:iG b d=true):iG a d=true:=by
 simp only [iG,aon] at *; exact List.lt_trans h1 h2
theorem SI {a b:ByteArray} (h1:iG a b=false) (h2:iG b a=false):a=b:=by
 simp only [iG,aox] at h1 h2
 have:=List.le_antisymm (List.not_lt.1 h2) (List.not_lt.1 h1)
 cases a; cases b
 simpa using Array.toList_inj.1 this
theorem DK:Order wW where
 eq a b:=by
  unfold wW
  by_cases h1:iG a b=true
  ·simp only [h1,afi]
   constructor
   ·intro h; omega
   ·rintro rfl; rw [zh] at h1; cases h1
  ·simp only [h1]
   by_cases h2:iG b a=true
   ·simp only [h2,afi]
    constructor
    ·intro h; simp at h
    ·rintro rfl; rw [zh] at h2; cases h2
   ·simp [h2]
    exact SI (by simpa using h1) (by simpa using h2)
 flip a b:=by
  unfold wW
  have:iG a b=true→iG b a=true→False:=fun h1 h2=>by have:=Hz h1 h2; rw [zh] at this; cases this
  cases h1:iG a b <;> cases h2:iG b a <;> simp_all
 trans a b d:=by
  unfold wW
  cases h1:iG a b <;> cases h2:iG b d <;> simp
  ·split <;> simp
  ·split <;> simp
  ·split <;> simp
  ·rw [Hz h1 h2]; simp
theorem Ko:Order oP:=by
 have h2:Order (fun a b:Int × ByteArray=>if dh a.1 b.1=0 then wW a.2 b.2 else dh a.1 b.1):=by
  refine Dp (c:=fun a b:Int × ByteArray=>dh a.1 b.1) (d:=fun a b:Int × ByteArray=>wW a.2 b.2) (fun a=>(dD.eq _ _).2 rfl) (fun a b=>dD.flip _ _) (fun a b e=>dD.trans _ _ _) (fun a b e h=>?_) (fun a b h=>?_) (fun a b=>DK.flip _ _) (fun a b e=>DK.trans _ _ _)
  ·have:=(dD.eq _ _).1 h; simp [this]
  ·have h:=(dD.eq _ _).1 h
   rw [DK.eq]; cases a; cases b; simp at h ⊢; simp [h]
 have h3:Order (fun a b:V=>if dh a.kind b.kind=0 then (if dh a.n b.n=0 then wW a.text b.text else dh a.n b.n) else dh a.kind b.kind):=by
  refine Dp (c:=fun a b:V=>dh a.kind b.kind) (d:=fun a b:V=>if dh a.n b.n=0 then wW a.text b.text else dh a.n b.n) (fun a=>(dD.eq _ _).2 rfl) (fun a b=>dD.flip _ _) (fun a b e=>dD.trans _ _ _) (fun a b e h=>?_) (fun a b h=>?_) (fun a b=>h2.flip (a.n,a.text) (b.n,b.text)) (fun a b e=>h2.trans (a.n,a.text) (b.n,b.text) (e.n,e.text))
  ·have:=(dD.eq _ _).1 h; simp [this]
  ·have h:=(dD.eq _ _).1 h
   have:=h2.eq (a.n,a.text) (b.n,b.text)
   dsimp only at this
   rw [this]; cases a; cases b; simp at h ⊢; simp [h]
 have:oP=fun a b:V=>if dh a.kind b.kind=0 then (if dh a.n b.n=0 then wW a.text b.text else dh a.n b.n) else dh a.kind b.kind:=by
  funext a b; simp only [oP,ne_eq,ite_not]
 rw [this]; exact h3
theorem dK:Order dn:=by
 have:dn=rY oP:=by funext a b; exact abw a b
 rw [this]; exact YR Ko
end Go.Proofs.Z
end
section
namespace Go.Proofs.Z
open Go Go.au Go.Proofs
theorem Kq {s:UInt8}:∀ {a b A B:List UInt8},s∉a→s∉b→a++s::A=b++s::B→a=b∧A=B
 | [],[],A,B,_,_,h=>⟨rfl,by simpa using h⟩
 | [],y::b,A,B,_,hb,h=>by simp only [aif,ae0,ab1] at h; exact (hb (by rw [h.1]; exact aeu ..)).elim
 | x::a,[],A,B,ha,_,h=>by simp only [aif,ae0,ab1] at h; exact (ha (by rw [h.1]; exact aeu ..)).elim
 | x::a,y::b,A,B,ha,hb,h=>by
  simp only [ae0,ab1] at h
  obtain ⟨e1,e2⟩:=Kq (fun m=>ha (adg _ m)) (fun m=>hb (adg _ m)) h.2
  exact ⟨by rw [h.1,e1],e2⟩
def dval (l:List UInt8):Nat:=l.foldl (fun a c=>a * 10+(c.toNat - 48)) 0
theorem Ac {u:Nat} (h:u<10):(UInt8.ofNat (48+u)).toNat=48+u:=by
 rw [UInt8.toNat_ofNat']; omega
theorem DL (u:Nat):dval (ao4 u)=u:=by
 induction u using Nat.strongRecOn with
 | _ u ih=>
  by_cases h:u<10
  ·rw [ao4,apn h]
   simp only [dval,aoY,aur,Ac h]; omega
  ·rw [ao4,asf h]
   have:=ih (u / 10) (by omega)
   unfold dval at this ⊢
   rw [ap3,this]
   simp only [aoY,aur,Ac (Nat.mod_lt u (by decide:0<10))]; omega
theorem L8 (u:Nat):∀ c∈ao4 u,48≤c.toNat∧c.toNat≤57:=by
 induction u using Nat.strongRecOn with
 | _ u ih=>
  intro c hc
  by_cases h:u<10
  ·rw [ao4,apn h] at hc
   rw [adh.1 hc,Ac h]; omega
  ·rw [ao4,asf h] at hc
   rcases agS.1 hc with hc | hc
   ·exact ih (u / 10) (by omega) c hc
   ·have:=Nat.mod_lt u (by decide:0<10)
    rw [adh.1 hc,Ac this]; omega
theorem ahw (u:Nat):ao4 u≠[]:=by
 by_cases h:u<10
 ·rw [ao4,apn h]; simp
 ·rw [ao4,asf h]; simp
theorem I5 {n:Int} {c:UInt8} (hc:c∈an6 n):c.toNat=45∨(48≤c.toNat∧c.toNat≤57):=by
 unfold an6 at hc
 split at hc
 ·rcases ae1.1 hc with rfl | hc
  ·exact .inl rfl
  ·exact .inr (L8 _ c hc)
 ·exact .inr (L8 _ c hc)
theorem YS (n:Int):∃ c l,an6 n=c::l∧(c.toNat=45∨(48≤c.toNat∧c.toNat≤57)):=by
 cases h:an6 n with
 | nil=>
  unfold an6 at h
  split at h
  ·cases h
  ·exact (ahw _ h).elim
 | cons c l=>exact ⟨c,l,rfl,I5 (n:=n) (by rw [h]; exact aeu ..)⟩
theorem QX {n m:Int} (h:an6 n=an6 m):n=m:=by
 have hd:∀ u l,ao4 u=45::l→False:=fun u l e=>by
  have:=L8 u 45 (by rw [e]; exact aeu ..)
  have h45:(45:UInt8).toNat=45:=rfl
  omega
 unfold an6 at h
 split at h
 ·split at h
  ·have:=congrArg dval (List.cons.inj h).2
   rw [DL,DL] at this; omega
  ·exact (hd _ _ h.symm).elim
 ·split at h
  ·exact (hd _ _ h).elim
  ·have:=congrArg dval h
   rw [DL,DL] at this; omega
theorem Ad (n:Int):(32:UInt8)∉an6 n:=fun h=>by
 have:=I5 h
 have h32:(32:UInt8).toNat=32:=rfl
 omega
theorem YT {c d:UInt8} {X Y:List UInt8} (h:iC c++X=iC d++Y):c=d∧X=Y:=by
 unfold iC at h
 repeat' split at h
 all_goals (simp only [ae0,aif,ab1] at h)
 all_goals first
  | (obtain ⟨h1,h2⟩:=h; exact ⟨h1,h2⟩)
  | (obtain ⟨_,h1,h2⟩:=h; first | exact ⟨by simp_all,h2⟩ | (exact absurd h1 (by decide)))
  | simp_all
theorem Kr (c:UInt8):∃ d l,iC c=d::l∧d≠34:=by
 unfold iC
 repeat' split
 ·exact ⟨92,_,rfl,by decide⟩
 ·exact ⟨92,_,rfl,by decide⟩
 ·exact ⟨92,_,rfl,by decide⟩
 ·exact ⟨c,_,rfl,by assumption⟩
theorem xW (c:UInt8) (l:List UInt8):aW (c::l)=iC c++aW l:=rfl
theorem ND:∀ {a b A B:List UInt8},aW a++34::A=aW b++34::B→a=b∧A=B
 | [],[],A,B,h=>⟨rfl,by simpa [aW] using h⟩
 | [],y::b,A,B,h=>by
  obtain ⟨d,l,e,hd⟩:=Kr y
  rw [xW,e] at h
  simp only [aW,atG,aif,ae0,afk,ab1] at h
  exact (hd h.1.symm).elim
 | x::a,[],A,B,h=>by
  obtain ⟨d,l,e,hd⟩:=Kr x
  rw [xW,e] at h
  simp only [aW,atG,aif,ae0,afk,ab1] at h
  exact (hd h.1).elim
 | x::a,y::b,A,B,h=>by
  rw [xW,xW,afk,afk] at h
  obtain ⟨e1,e2⟩:=YT h
  obtain ⟨e3,e4⟩:=ND e2
  exact ⟨by rw [e1,e3],e4⟩
theorem VZ {s:ByteArray} (h:s.size=0):s=aib:=by
 obtain ⟨⟨l⟩⟩:=s
 have:l=[]:=aip.1 h
 subst this; rfl
inductive xX:V→List UInt8→Prop
 | null:xX ⟨0,0,aib⟩ [110,117,108,108]
 | text (t:ByteArray):xX ⟨1,0,t⟩ (34::(aW (bytes t)++[34]))
 | num (n:Int):xX ⟨2,n,aib⟩ (an6 n)
 | date (n:Int):xX ⟨3,n,aib⟩ (64::an6 n)
 | no:xX ⟨4,0,aib⟩ [102,97,108,115,101]
 | yes:xX ⟨4,1,aib⟩ [116,114,117,101]
theorem abx:aqa true=[116,114,117,101]:=by decide +kernel
theorem YU:aqa false=[102,97,108,115,101]:=by decide +kernel
theorem DN {v:V} (h:dA v=true):xX v (bytes (bG v)):=by
 unfold bG
 rw [h]
 simp only [apR,akX,akS]
 obtain ⟨k,n,t⟩:=v
 unfold dA zL at h
 simp only at h ⊢
 by_cases h1:k=1
 ·subst h1
  simp at h
  have:n=0:=by omega
  subst this
  simp only [afi,pX,bytes]
  exact .text t
 rw [acg h1]
 by_cases ht:t.size=0
 ·obtain rfl:=VZ ht
  rw [acg (by simp [ht])] at h
  by_cases h2:k=2
  ·subst h2; simp only [afi,bytes]; exact .num n
  by_cases h3:k=3
  ·subst h3; simp only [bytes]; exact .date n
  by_cases h4:k=4
  ·subst h4
   simp at h
   have:n=0∨n=1:=by omega
   rcases this with rfl | rfl
   ·simp only [bytes]
    have e:((0:Int) == 1)=false:=rfl
    rw [e,YU]; exact .no
   ·simp only [bytes]
    have e:((1:Int) == 1)=true:=rfl
    rw [e,abx]; exact .yes
  ·rw [acg h2,acg h3,acg h4]
   by_cases h0:k=0
   ·subst h0
    simp at h
    have:n=0:=by omega
    subst this
    exact .null
   ·simp [h0,h1,h2,h3,h4] at h
 ·rw [acA ⟨h1,ht⟩] at h; cases h
theorem QY {u v:V} {a b A B:List UInt8} (hu:xX u a) (hv:xX v b) (h:a++32::A=b++32::B):u=v∧A=B:=by
 have hi:∀ {n:Int} {A:List UInt8} {d:UInt8} {l:List UInt8},d.toNat≠45→¬ (48≤d.toNat∧d.toNat≤57)→an6 n++A=d::l→False:=by
  intro n A d l h1 h2 h3
  obtain ⟨c,m,e,hc⟩:=YS n
  rw [e] at h3
  simp only [ae0,ab1] at h3
  rw [h3.1] at hc; omega
 cases hu <;> cases hv
 all_goals try simp only [ae0,aif,afk,ab1] at h
 all_goals first
  | exact (hi (by decide) (by decide) h).elim
  | exact (hi (by decide) (by decide) h.symm).elim
  | (exact absurd h.1 (by decide))
  | skip
 ·exact ⟨rfl,by simpa using h⟩
 ·obtain ⟨e1,e2⟩:=ND h.2
  refine ⟨?_,by simpa using e2⟩
  rw [bytes_inj e1]
 ·obtain ⟨e1,e2⟩:=Kq (Ad _) (Ad _) h
  exact ⟨by rw [QX e1],e2⟩
 ·obtain ⟨e1,e2⟩:=Kq (Ad _) (Ad _) h.2
  exact ⟨by rw [QX e1],e2⟩
 ·exact ⟨rfl,by simpa using h⟩
 ·exact ⟨rfl,by simpa using h⟩
theorem QZ:∀ {a b:List V},dP a→dP b→iE a=iE b→a=b
 | [],[],_,_,_=>rfl
 | [],v::b,_,_,h=>by simp [iE] at h
 | v::a,[],_,_,h=>by simp [iE] at h
 | v::a,u::b,ha,hb,h=>by
  have e:∀ (v:V) (l:List V),iE (v::l)=bytes (bG v)++32::iE l:=fun v l=>by simp [iE]
  rw [e,e] at h
  obtain ⟨e1,e2⟩:=QY (DN (ha v (aeu ..))) (DN (hb u (aeu ..))) h
  rw [e1,QZ (fun x hx=>ha x (adg _ hx)) (fun x hx=>hb x (adg _ hx)) e2]
theorem Q5 {a b:List V} (ha:dP a) (hb:dP b) (h:rowB a=rowB b):a=b:=by
 refine QZ ha hb ?_
 have:=congrArg bytes h
 simpa [rowB,bytes] using this
theorem Adds.inj {n c:Nat} {L:bC} (h:Adds n c L):sW L:=fun x hx y hy e=>Q5 (h.valid x hx) (h.valid y hy) e
def qV {α:Type}:List (Option α)→Option (List α)
 | []=>some []
 | none::_=>none
 | some x::l=>match qV l with
  | some r=>some (x::r)
  | none=>none
theorem sZ {α:Type}:∀ {l:List (Option α)} {r:List α},qV l=some r↔l=r.map some
 | [],r=>by
  cases r with
  | nil=>simp [qV]
  | cons y r=>simp [qV]
 | none::l,r=>by
  simp only [qV]
  constructor
  ·intro h; cases h
  ·intro h; cases r <;> simp at h
 | some x::l,r=>by
  simp only [qV]
  cases h:qV l with
  | none=>
   constructor
   ·intro h; cases h
   ·intro h2
    cases r with
    | nil=>simp at h2
    | cons y r=>
     simp only [ab9,ab1] at h2
     rw [sZ.2 h2.2] at h; cases h
  | some q=>
   have hq:=sZ.1 h
   simp only [acX]
   constructor
   ·rintro rfl; rw [hq]; rfl
   ·intro h2
    cases r with
    | nil=>simp at h2
    | cons y r=>
     simp only [ab9,ab1,acX] at h2
     have:=sZ.2 h2.2
     rw [h] at this; cases this
     rw [h2.1]
theorem NG {α:Type}:∀ {l:List (Option α)},qV l=none↔none∈l
 | []=>by simp [qV]
 | none::l=>by simp [qV]
 | some x::l=>by
  simp only [qV,ae1,reduceCtorEq,aqe]
  rw [← NG]
  cases qV l <;> simp
instance (m:AM):Decidable (jU m):=inferInstanceAs (Decidable (_∧_))
def kL (facts:List bQ):Nat→Plan→Option AM
 | 0,_=>none
 | n+1,p=>match qV (p.kids.map (kL facts n)) with
  | none=>none
  | some ms=>match bY p facts ms with
   | none=>none
   | some L=>if jU (bJ L) then some (eF (bJ L)) else none
theorem iw.perm {n c:Nat} {m m':AM} (p:m.Perm m') (h:iw n c m):iw n c m' where
 nodup:=((p.map _).nodup_iff).1 h.nodup
 len:=by rw [← p.length_eq]; exact h.len
 name:=fun q hq=>h.name q (p.mem_iff.2 hq)
 valid:=fun q hq=>h.valid q (p.mem_iff.2 hq)
 width:=fun q hq=>h.width q (p.mem_iff.2 hq)
 few:=fun q hq=>h.few q (p.mem_iff.2 hq)
 some:=fun q hq=>h.some q (p.mem_iff.2 hq)
 xu:=fun q hq=>h.xu q (p.mem_iff.2 hq)
 min:=fun q hq=>h.min q (p.mem_iff.2 hq)
theorem FT {α β:Type} {f g:α→List β}:∀ (l:List α),(∀ a∈l,(f a).Perm (g a))→(l.flatMap f).Perm (l.flatMap g)
 | [],_=>.refl _
 | x::l,h=>by
  simp only [an4]
  exact (h x (aeu ..)).append (FT l fun a ha=>h a (adg _ ha))
theorem FU {α β:Type} {f g:α→List β} {l m:List α} (h:l.Perm m) (hf:∀ a∈l,(f a).Perm (g a)):(l.flatMap f).Perm (m.flatMap g):=
 (FT l hf).trans (ak1 g h)
theorem SL {m m':AM} (p:m.Perm m') (hn:(m.map (·.1)).Nodup) (n:ByteArray):oG n m=oG n m':=by
 have hn':(m'.map (·.1)).Nodup:=((p.map _).nodup_iff).1 hn
 by_cases h:∃ q∈m,q.1=n
 ·obtain ⟨q,hq,rfl⟩:=h
  rw [xR hn hq,xR hn' (p.mem_iff.1 hq)]
 ·rw [rE (fun q hq e=>h ⟨q,hq,e⟩),rE (fun q hq e=>h ⟨q,p.mem_iff.2 hq,e⟩)]
theorem Bd {m m':AM} (p:m.Perm m') (hn:(m.map (·.1)).Nodup) (q:ByteArray × Ans):gZ m q=gZ m' q:=by
 unfold gZ; rw [SL p hn]
def akc:Option bC→Option bC→Prop
 | some L,some M=>L.Perm M
 | none,none=>True
 | _,_=>False
theorem FV {tl:List bU} {facts:List bQ} {n:Nat} {p:Plan} (hs:Shape tl n p) {ms ms':List AM} (hl:ms.length=p.kids.length) (hl':ms'.length=p.kids.length)
  (hp:∀ i (h:i<ms.length) (h2:i<ms'.length),(ms[i].Perm ms'[i])∧(ms[i].map (·.1)).Nodup):akc (bY p facts ms) (bY p facts ms'):=by
 have one:∀ q,p.kids=[q]→∃ m m',ms=[m]∧ms'=[m']∧m.Perm m':=by
  intro q hk
  rw [hk] at hl hl'
  obtain ⟨m,rfl⟩:=aeT.1 hl
  obtain ⟨m',rfl⟩:=aeT.1 hl'
  exact ⟨m,m',rfl,rfl,(hp 0 (by simp) (by simp)).1⟩
 have two:∀ q r,p.kids=[q,r]→∃ m1 m2 NH NJ,ms=[m1,m2]∧ms'=[NH,NJ]∧m1.Perm NH∧m2.Perm NJ∧(m2.map (·.1)).Nodup:=by
  intro q r hk
  rw [hk] at hl hl'
  obtain ⟨m1,m2,rfl⟩:=qo hl
  obtain ⟨NH,NJ,rfl⟩:=qo hl'
  exact ⟨m1,m2,NH,NJ,rfl,rfl,(hp 0 (by simp) (by simp)).1,(hp 1 (by simp) (by simp)).1,(hp 1 (by simp) (by simp)).2⟩
 unfold bY
 cases hs with
 | table hk hks h0 h1 hl'=>rw [acA hk,acA hk]; exact .refl _
 | sel hk q hks hq hsv hl'=>
  obtain ⟨m,m',rfl,rfl,h⟩:=one q hks
  simp only [hk,hks,reduceIte,aio]
  exact ak1 _ h
 | proj hk q hks hq hcc hl'=>
  obtain ⟨m,m',rfl,rfl,h⟩:=one q hks
  simp only [hk,hks,reduceIte,aio]
  exact ak1 _ h
 | ren hk q hks hq hl'=>
  obtain ⟨m,m',rfl,rfl,h⟩:=one q hks
  simp only [hk,hks,reduceIte,aio]
  exact ak1 _ h
 | join hk q r hks hq hr hn hj=>
  obtain ⟨m1,m2,NH,NJ,rfl,rfl,h1,h2,_⟩:=two q r hks
  simp only [hk,hks,reduceIte,aio]
  exact FU h1 fun a _=>ak1 _ h2
 | union hk q r hks hq hr hl1 hl2=>
  obtain ⟨m1,m2,NH,NJ,rfl,rfl,h1,h2,_⟩:=two q r hks
  simp only [hk,hks,reduceIte,aio]
  exact (ak1 _ h1).append (ak1 _ h2)
 | minus hk q r hks hq hr hl1 hl2=>
  obtain ⟨m1,m2,NH,NJ,rfl,rfl,h1,h2,hn⟩:=two q r hks
  simp only [hk,hks,reduceIte,aio]
  have hall:(m1.all fun q=>(gZ m2 q).isSome)=NH.all fun q=>(gZ NJ q).isSome:=by
   rw [anV,aeA,aeA]
   constructor
   ·intro h x hx; rw [← Bd h2 hn]; exact h x (h1.mem_iff.2 hx)
   ·intro h x hx; rw [Bd h2 hn]; exact h x (h1.mem_iff.1 hx)
  rw [hall]
  split
  ·refine FU h1 fun a _=>?_
   unfold jQ; rw [Bd h2 hn]
  ·trivial
theorem Kt {tl:List bU} {facts:List bQ} (hf:iI tl facts):∀ (n:Nat) (p:Plan),aX n tl p=true→grp p=false →
  (∀ m,Aa facts n p m→∃ m0,kL facts n p=some m0∧m.Perm m0)∧(Nv facts n p→kL facts n p=none)
 | 0,p,hv,_=>by simp [aX] at hv
 | n+1,p,hv,hg=>by
  obtain ⟨h8,hgk⟩:=rX hg
  have hs:=mP hv h8
  have ih:=fun q (hq:q∈p.kids)=>Kt hf n q (hs.kids q hq) (hgk q hq)
  have kids:∀ ms:List AM,ms.length=p.kids.length→(∀ i (h:i<p.kids.length) (h2:i<ms.length),Aa facts n p.kids[i] ms[i])→∃ ms0,qV (p.kids.map (kL facts n))=some ms0∧ms0.length=p.kids.length ∧
    (∀ i (h:i<ms.length) (h2:i<ms0.length),(ms[i].Perm ms0[i])∧(ms[i].map (·.1)).Nodup)∧(∀ i (h:i<p.kids.length) (h2:i<ms.length),iw facts.length p.kids[i].attrs.length ms[i])∧∀ i (h:i<p.kids.length) (h2:i<ms0.length),iw facts.length p.kids[i].attrs.length ms0[i]:=by
   intro ms hl hk
   have hc:∀ i (h:i<p.kids.length) (h2:i<ms.length),iw facts.length p.kids[i].attrs.length ms[i]:=fun i h h2=>qL hf n _ _ (hs.kids _ (acn h)) (hgk _ (acn h)) (hk i h h2)
   have hex:∀ i (h:i<p.kids.length),∃ m0,kL facts n p.kids[i]=some m0∧(ms[i]'(by omega)).Perm m0:=fun i h=>(ih _ (acn h)).1 _ (hk i h (by omega))
   refine ⟨(p.kids.map fun q=>(kL facts n q).getD []),?_,by simp,fun i h h2=>?_,hc,fun i h h2=>?_⟩
   ·rw [sZ,anY]
    refine akZ fun q hq=>?_
    obtain ⟨i,hi,rfl⟩:=aeF hq
    obtain ⟨m0,e,_⟩:=hex i hi
    simp [e]
   ·obtain ⟨m0,e,hp⟩:=hex i (by omega)
    simp only [anC,e,Option.getD_some]
    exact ⟨hp,(hc i (by omega) h).nodup⟩
   ·obtain ⟨m0,e,hp⟩:=hex i h
    simp only [anC,e,Option.getD_some]
    exact (hc i h (by omega)).perm hp
  refine ⟨?_,?_⟩
  ·rintro m ⟨ms,hl,hk,L0,L,h0,hp,hc,rfl⟩
   obtain ⟨ms0,e0,hl0,hpm,hcl,hcl0⟩:=kids ms hl hk
   have hpo:=FV (facts:=facts) hs hl hl0 hpm
   rw [h0] at hpo
   cases h1:bY p facts ms0 with
   | none=>rw [h1] at hpo; exact hpo.elim
   | some M=>
    rw [h1] at hpo
    have hpo:L0.Perm M:=hpo
    have hA:=(zf hf hs hl hcl h0).perm hp.symm
    have hLM:L.Perm M:=hp.trans hpo
    refine ⟨eF (bJ M),?_,Hw hLM hA.inj⟩
    simp only [kL,e0,h1]
    rw [acA ((FQ hLM hA.inj).1 hc)]
  ·rintro (⟨i,h,hx⟩ | ⟨ms,hl,hk,h⟩)
   ·have:qV (p.kids.map (kL facts n))=none:=by
     rw [NG,acL]
     exact ⟨p.kids[i],acn h,(ih _ (acn h)).2 hx⟩
    simp only [kL,this]
   ·obtain ⟨ms0,e0,hl0,hpm,hcl,hcl0⟩:=kids ms hl hk
    have hpo:=FV (facts:=facts) hs hl hl0 hpm
    rcases h with h0 | ⟨L0,L,h0,hp,hc⟩
    ·rw [h0] at hpo
     cases h1:bY p facts ms0 with
     | none=>simp only [kL,e0,h1]
     | some M=>rw [h1] at hpo; exact hpo.elim
    ·rw [h0] at hpo
     cases h1:bY p facts ms0 with
     | none=>rw [h1] at hpo; exact hpo.elim
     | some M=>
      rw [h1] at hpo
      have hpo:L0.Perm M:=hpo
      have hA:=(zf hf hs hl hcl h0).perm hp.symm
      have hLM:L.Perm M:=hp.trans hpo
      simp only [kL,e0,h1]
      rw [acg (fun h=>hc ((FQ hLM hA.inj).2 h))]
def FW (x:Ans):List Ans→List Ans
 | []=>[x]
 | y::l=>if dn x.row y.row<0 then x::y::l else y::FW x l
def sortA (l:List Ans):List Ans:=l.foldr FW []
theorem FX (x:Ans):∀ l,(FW x l).Perm (x::l)
 | []=>.refl _
 | y::l=>by
  simp only [FW]
  split
  ·exact .refl _
  ·exact ((FX x l).cons y).trans (.swap x y l)
theorem uO:∀ l,(sortA l).Perm l
 | []=>.refl _
 | x::l=>(FX x (sortA l)).trans ((uO l).cons x)
end Go.Proofs.Z
end
