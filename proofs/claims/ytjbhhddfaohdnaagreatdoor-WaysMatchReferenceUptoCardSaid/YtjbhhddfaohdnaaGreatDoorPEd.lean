/- A part of the proof. -/
import Derived.Test.YtjbhhddfaohdnaaGreatDoorPK6
set_option linter.all false
set_option linter.deprecated false
open ByteArray renaming empty→akf
open Go.Lib renaming itoa_length_le→arU,formatBool→apm,decDigits→aoe,itoa→ani
open Go.Proofs.Tryz renaming prog→abo
open Int renaming reduceEq→akD
open List renaming cons_append→akj,Nodup→apk,length_cons→agX,length_nil→aj7,getElem_cons_zero→akv,getElem_cons_succ→amx,nil_append→akd,foldl_cons→aor,foldl_nil→atu
section
namespace Go.Proofs.Z
open Go Go.au Go.Proofs
set_option maxRecDepth 10000
set_option maxHeartbeats 4000000
theorem agh:aG abo 153:=fun _ _=>by kernel_rfl
theorem ai8:aG abo 75:=fun _ _=>by kernel_rfl
theorem _root_.Go.au.zC {C:Cx} {n:Nat} {a:Act} {w:World}:∀ {k:List KI},fin C k (.goto n) a w→C.post (.goto n) a w
 | [],h=>h
 | .code _::k,h=>zC (k:=k) h
 | .ops _ _::k,h=>zC (k:=k) h
 | .inBlock _::k,h=>zC (k:=k) h
 | .aU _::k,h=>zC (k:=k) h
theorem _root_.Go.au.R.scope {C:Cx} {k:List KI} {s:St} {c:Code} (hp:∀ n a w,¬ C.post (.goto n) a w) (h:R C (.code c::k) s):R C (.code (.scope c)::k) s:=by
 intro a w E g
 refine wp_scope_straight (wp_mono (h a w E g) ?_)
 intro e a w hq
 cases e with
 | goto n=>exact hp n a w (zC hq)
 | normal=>exact hq
 | exit _=>exact hq
 | ret=>exact hq
 | panic _=>exact hq
 | outgrown=>exact hq
theorem _root_.Go.au.R.label {C:Cx} {k:List KI} {s:St} {n:Nat} (h:R C k s):R C (.code (.label n)::k) s:=fun a w E g=>wp_label (h a w E g)
theorem Yc (l:List V) (hl:l.length≤1000000000):fH abo 75 [.pd (vals l)] [] [] (fun res M'=>res = .own ⟨76,3,l.map val⟩∧M'=[]):=by
 refine fH.mk Tryz.func75 rfl ai8 (by simp [Tryz.ntmps75]) fun w G=>?_
 refine aMD ?_
 refine fun b hb=>⟨fun h=>?_,fun h=>?_⟩
 ·refine aMD ?_
  refine R.fJ 2 2 76 3 (by (simp only [go_sem])) rfl rfl ?_
  simp only [go_sem]
  refine R.wZ rfl rfl rfl ⟨?_,rfl⟩
  rw [hb h]
 ·(refine aB 3 _ _ ?_; simp only [go_sem])
  refine R.empty 5 rfl rfl rfl rfl (by (simp only [go_sem])) Dt (by rw [LC,Dv]; decide) (by rw [LC,Dw]; rfl) ?_
  refine aMD ?_
  refine R.append rfl rfl (aj (by (simp only [go_sem]))) rfl rfl rfl (es:=l.map val) rfl Dt rfl Dv (by decide) (congrArg (Option.map List.length) Dw) rfl (fun i hi=>?_) ?_ ?_ ?_
  ·simp only [ace] at hi
   simp only [getD_map,hi]; rfl
  ·rw [LC,H6]; simp; omega
  ·simp [maxLen]; omega
  refine aMD ?_
  exact R.wZ rfl rfl rfl ⟨rfl,rfl⟩
abbrev jQ (la:List Attr):List (Attr × Nat):=la.zipIdx
abbrev oL (l:List (Attr × Nat)):lq:=l.map fun p=>(.string p.1.name,I p.2)
def nN (la:List Attr) (n:ByteArray):Option Nat:=la.findIdx? fun a=>decide (a.name=n)
def gU (la:List Attr) (x:List V):List (Attr × V)→List V→Option (List V)
 | [],out=>some out
 | (a,v)::l,out=>match nN la a.name with
  | some k=>if iy (x.getD k V.zero) 1 v 0 then gU la x l out else none
  | none=>gU la x l (out++[v])
def uX (la lb:List Attr) (x y:List V):Option (List V):=gU la x (lb.zip y) x
theorem Ac (la:List Attr) (x:List V) (m:List (Attr × V)):∀ (l:List (Attr × V)) (out:List V),gU la x (l++m) out=(gU la x l out).bind (gU la x m)
 | [],out=>rfl
 | (a,v)::l,out=>by
  simp only [akj,gU]
  split
  ·split
   ·exact Ac la x m l out
   ·rfl
  ·exact Ac la x m l _
theorem FC (la:List Attr) (x:List V):∀ (l:List (Attr × V)) (out out':List V),gU la x l out=some out'→out'.length≤out.length+l.length
 | [],out,out',h=>by simp only [gU,adQ] at h; subst h; simp
 | (a,v)::l,out,out',h=>by
  simp only [gU] at h
  split at h
  ·split at h
   ·have:=FC la x l out out' h; simp; omega
   ·cases h
  ·have:=FC la x l _ out' h; simp at this ⊢; omega
def iM (la lb:List Attr) (q1 q2:ByteArray × Ans):bD:=match uX la lb q1.2.row q2.2.row with
 | some row=>[(row,aT (dD q1.2.ways q2.2.ways))]
 | none=>[]
theorem ai9 (la:List Attr) (hn:(la.map (·.name)).Nodup) (n:ByteArray):(∃ k,nN la n=some k∧k<la.length∧rV abo 3 .string (.string n) ((oL (jQ la)).map (·.1)) ((oL (jQ la)).map (·.2)) true (I k))∨(nN la n=none∧rV abo 3 .string (.string n) ((oL (jQ la)).map (·.1)) ((oL (jQ la)).map (·.2)) false (I 0)):=by
 have hkk:∀ k∈(oL (jQ la)).map (·.1),bY .string k=true:=by
  intro k hk
  simp only [amk,acE] at hk
  obtain ⟨p,_,rfl⟩:=hk
  rfl
 have hks:(oL (jQ la)).map (·.1)=la.map fun a=>Value.string a.name:=by
  apply amI
  ·simp
  ·intro i h1 h2; simp
 have hds:(oL (jQ la)).map (·.2)=(List.range la.length).map fun i=>I (i:Nat):=by
  apply amI
  ·simp
  ·intro i h1 h2; simp
 cases h:nN la n with
 | some k=>
  unfold nN at h
  rw [akB] at h
  obtain ⟨hk,hk2,_⟩:=h
  refine .inl ⟨k,rfl,hk,rfl,hkk,?_,k,by rw [hks]; simpa using hk,?_,?_⟩
  ·rw [hks]
   simp only [apk,anp] at hn ⊢
   exact hn.imp fun h e=>h (by simpa using e)
  ·rw [hks]; simp at hk2; simp [hk,hk2]
  ·rw [hds]; simp [hk]
 | none=>
  unfold nN at h
  rw [apj] at h
  refine .inr ⟨rfl,rfl,fun k hk=>⟨hkk k hk,fun e=>?_⟩,zd3⟩
  rw [hks] at hk
  obtain ⟨a,ha,rfl⟩:=acE.1 hk
  have:=h a ha
  simp at e this; exact this e
theorem aaH (p k0 k1:Plan) (facts:List cZ) (hk:p.kids=[k0,k1]) (r1 r2:Nat) (m1 m2:AM) (h12:r1≠r2) (n1:(m1.map (·.1)).Nodup) (n2:(m2.map (·.1)).Nodup) (s1:FB m1) (s2:FB m2)
  (hna:(k0.attrs.map (·.name)).Nodup) (hla:k0.attrs.length≤100000000) (hlb:k1.attrs.length≤100000000) (hr1:∀ q∈m1,q.2.row.length=k0.attrs.length) (hr2:∀ q∈m2,q.2.row.length=k1.attrs.length)
  (ho:okD (m1.flatMap fun q1=>m2.flatMap (iM k0.attrs k1.attrs q1))):
  fH abo 153 [.pd (Me p facts [r1,r2])] [(r1,aK m1),(r2,aK m2)] [] (Fq (m1.flatMap fun q1=>m2.flatMap (iM k0.attrs k1.attrs q1))):=by
 have hz:=bU h12
 generalize alK:k0.attrs=la at *
 generalize alL:k1.attrs=lb at *
 refine fH.mk Tryz.func153 rfl agh (by simp [Tryz.ntmps153]) fun w G=>?_
 simp only [Me,hk,acn,adR]
 refine aMD ?_
 refine R.makeMap rfl rfl rfl (by (simp only [go_sem])) fun rl hl1 hr0=>?_
 have f1:=bU (dZ (q:=r1) (x:=.map (aK m1)) hr0 (by simp [St.map,lk]))
 have f2:=bU (dZ (q:=r2) (x:=.map (aK m2)) hr0 (by simp [St.map,lk,hz]))
 clear hr0
 apply ev8; simp only [go_sem,Int.toNat_zero,aF k0,alK]
 repeat refine ⟨by omega,?_⟩
 have hl0:([]:lq)=oL ((jQ la).take 0):=rfl
 refine R.vW (fun (k:Nat) s=>{ St.lp [1,2,3,6,8,10,11,12,13,14,15,22,23,34,35,36,37,38,39,40,41,42,43,44,45,46,47,48,49,50,51,52,53,54,55,56,57,58,59,60,61,62,63,64,65,66,67,68,69,70,71,72,73,74,75,76,77,78,79,80,81,82,83,84,85,86,87,88,89,90,91,92,93,94,95,96,97,98,99,100,101,102,103,104,105,107] [(24,.pd (I k))] [1,8,10,13] [] [] [] s with maps:=[(rl,.map (oL ((jQ la).take k))),(r1,.map (aK m1)),(r2,.map (aK m2))] }) (fun (k:Nat)=>k≤la.length) (fun (k:Nat)=>la.length - k) (0) (by omega) (by (simp only [go_sem,f1,f2,hz]); all_goals (and_intros <;> first | rfl | simp)) ?_
 rintro k hk'
 refine aMF ?_
 refine ⟨fun h=>?_,fun h=>?_⟩
 ·have hlt:k<la.length:=by simpa using h
  have hlz:k<(jQ la).length:=by simpa using hlt
  have hsn:oL ((jQ la).take (k+1))=oL ((jQ la).take k)++[(.string la[k].name,I k)]:=by
   rw [abq hlz]; simp
  apply aC; simp only [go_sem,getD_map,hlt]
  repeat refine ⟨by omega,?_⟩
  refine R.jR (m:=oL ((jQ la).take k)) (.inl rfl) rfl (aj (by (simp only [go_sem]))) rfl (by simp [St.map,lk]) rfl rfl NS rfl (fun q hq=>?_) (.inl hl1) ?_
  ·obtain ⟨q',hq',rfl⟩:=acE.1 hq
   refine ⟨rfl,fun e=>?_⟩
   obtain ⟨j,hj,rfl⟩:=List.mem_take_iff_getElem.1 hq'
   simp only [aoE] at e
   have e:la[j].name=la[k].name:=by simpa using e
   have:=ajZ.1 hna j k (by simp at hj ⊢; omega) (by simpa using hlt) (by omega)
   simp only [anW] at this
   exact this e
  apply ev8; simp only [go_sem,fV,dW.fV,wrapN (k:=k) (by omega)]
  refine R.fE (k+1) (by omega) (l:=by (simp only [go_sem,hsn,f1,f2,hz]); all_goals (and_intros <;> rfl))
 have hke:(jQ la).take k=jQ la:=abT (by have h':¬ k<la.length:=(by simpa using h); simp; omega)
 rw [hke]
 refine aMD ?_
 refine R.makeMap rfl rfl rfl (by (simp only [go_sem])) fun r hr1' hr0=>?_
 have e1:=bU (dZ (q:=r1) (x:=.map (aK m1)) hr0 (by simp [St.map,lk,f1]))
 have e2:=bU (dZ (q:=r2) (x:=.map (aK m2)) hr0 (by simp [St.map,lk,f2,hz]))
 have e3:=bU (dZ (q:=rl) (x:=.map (oL (jQ la))) hr0 (by simp [St.map,lk]))
 clear hr0
 apply ev8; simp only [go_sem,Int.toNat_zero]
 repeat refine ⟨by omega,?_⟩
 refine R.zA m1 rfl rfl rfl (by (simp only [go_sem])) rfl (by simp [St.map,lk,e1,f1]) (by show (pV abo 95).isSome=true; rw [qo]; rfl) fun b hb1 hb2=>?_
 have e4:=bU (dZ (q:=r) (x:=.map []) hb2 (by simp [St.map,lk]))
 have e5:=bU (dZ (q:=r1) (x:=.map (aK m1)) hb2 (by simp [St.map,lk,e1,f1]))
 have e6:=bU (dZ (q:=r2) (x:=.map (aK m2)) hb2 (by simp [St.map,lk,e2,f2,hz]))
 have e7:=bU (dZ (q:=rl) (x:=.map (oL (jQ la))) hb2 (by simp [St.map,lk,e3]))
 clear hb1 hb2
 refine aMD ?_
 refine R.vW (fun (y:AM × AM × bD × Option Value) s=>{ St.lp [1,2,3,6,39,107] [] [1,5] [] [] [] s with maps:=[(b,.it r1 (y.2.1.map keyS) y.2.2.2),(r,.map (aK (bg y.2.2.1))),(rl,.map (oL (jQ la))),(r1,.map (aK m1)),(r2,.map (aK m2))] }) (fun (y:AM × AM × bD × Option Value)=>(y.1++y.2.1).Perm m1∧y.2.2.1.Perm ([]++y.1.flatMap fun q1=>m2.flatMap (iM la lb q1))) (fun (y:AM × AM × bD × Option Value)=>y.2.1.length) (([],m1,[],none)) (⟨.refl _,by simp⟩) (by (simp only [go_sem,zy,e1,e2,e3,f1,f2,hz,e4,e5,e6,e7]); all_goals (and_intros <;> first | rfl | simp)) ?_
 rintro ⟨done,left,L',cur⟩ ⟨hp,hL'⟩
 simp only at hp hL'
 refine aMD ?_
 refine R.Gl (m:=m1) (r:=r1) (cur:=cur) (left:=left) (done:=done) n1 hp rfl rfl (aj (by (simp only [go_sem]))) rfl (by simp [St.map,lk]) (by simp [St.map,lk,e1,f1,e5]) (fun hz0=>?_) (fun l1 q l2 hz0 hpm hp2=>?_)
 ·subst hz0
  have hL2:L'.Perm (m1.flatMap fun q1=>m2.flatMap (iM la lb q1)):=by refine hL'.trans ?_; exact akx _ (by simpa using hp)
  refine aME ?_
  refine R.uw (vc:=True) [(r,aK (bg L'))] rfl trivial ⟨r,L',rfl,rfl,hL2⟩ (fun r' m' h=>?_)
  simp only [lk] at h
  split at h
  ·rename_i e; subst e; cases h; exact ⟨by simp [St.map,lk,e4],.inr hr1'⟩
  ·cases h
 ·refine aME ?_
  refine R.zB (p:=q) (left:=(l1++l2).map keyS) (r:=r1) n1 hpm rfl rfl (aj (by (simp only [go_sem]))) rfl (by simp [St.map,lk]) (by simp [St.map,lk,e1,f1,e5]) ?_
  have hstep:=qI (g:=fun q1=>m2.flatMap (iM la lb q1)) hL' q
  have hpre:=wE (A:=[]) (g:=fun q1=>m2.flatMap (iM la lb q1)) ho hp2 hL'
  have hq1:=s1 q hpm
  have hx:=hr1 q hpm
  refine aMD ?_
  refine R.scope (fun _ _ _ h=>h) ?_
  refine aMD ?_
  refine R.label ?_
  apply ev8; simp only [go_sem,Int.toNat_one]
  repeat refine ⟨by omega,?_⟩
  refine R.zA m2 rfl rfl rfl (by (simp only [go_sem])) rfl (by simp [St.map,lk,e2,f2,hz,e6]) (by show (pV abo 95).isSome=true; rw [qo]; rfl) fun b2 hb1 hb2=>?_
  have g0:=bU (dZ (q:=b) (x:=.it r1 ((l1++l2).map keyS) (some (keyS q))) hb2 (by simp [St.map,lk]))
  have g4:=bU (dZ (q:=r) (x:=.map (aK (bg L'))) hb2 (by simp [St.map,lk,e4]))
  have g5:=bU (dZ (q:=r1) (x:=.map (aK m1)) hb2 (by simp [St.map,lk,e1,f1,e5]))
  have g6:=bU (dZ (q:=r2) (x:=.map (aK m2)) hb2 (by simp [St.map,lk,e2,f2,hz,e6]))
  have g7:=bU (dZ (q:=rl) (x:=.map (oL (jQ la))) hb2 (by simp [St.map,lk,e3,e7]))
  clear hb1 hb2
  refine aMD ?_
  refine R.vW (fun (z:AM × AM × bD × Option Value) s=>{ St.lp [1,2,3,6,8,39,48,107] [] [1,5,8] [] [] [] s with maps:=[(b2,.it r2 (z.2.1.map keyS) z.2.2.2),(b,.it r1 ((l1++l2).map keyS) (some (keyS q))),(r,.map (aK (bg z.2.2.1))),(rl,.map (oL (jQ la))),(r1,.map (aK m1)),(r2,.map (aK m2))] }) (fun (z:AM × AM × bD × Option Value)=>(z.1++z.2.1).Perm m2∧z.2.2.1.Perm (L' ++ z.1.flatMap (iM la lb q))) (fun (z:AM × AM × bD × Option Value)=>z.2.1.length) (([],m2,L',none)) (⟨.refl _,by simp⟩) (by (simp only [go_sem,e1,e2,e3,f1,f2,hz,e4,e5,e6,e7,g0,g4,g5,g6,g7]); all_goals (and_intros <;> first | rfl | simp)) ?_
  rintro ⟨done2,aja,L2,Om⟩ ⟨hp3,hL3⟩
  simp only at hp3 hL3
  refine aMD ?_
  refine R.Gl (m:=m2) (r:=r2) (cur:=Om) (left:=aja) (done:=done2) n2 hp3 rfl rfl (aj (by (simp only [go_sem]))) rfl (by simp [St.map,lk]) (by simp [St.map,lk,e2,f2,hz,e6,g6]) (fun hz1=>?_) (fun l3 q' l4 hz1 aaI hp4=>?_)
  ·subst hz1
   have hL4:L2.Perm (L' ++ m2.flatMap (iM la lb q)):=hL3.trans (aok _ (akx _ (by simpa using hp3)))
   have hL5:L2.Perm ([]++(done++[q]).flatMap fun q1=>m2.flatMap (iM la lb q1)):=hL4.trans hstep
   refine aME ?_
   refine R.fE (done++[q],l1++l2,L2,some (keyS q)) ⟨hp2,hL5⟩ (hm:=by (subst hz0; show _<_; simp <;> omega)) (l:=by (simp only [go_sem,e1,e2,e3,f1,f2,hz,e4,e5,e6,e7,g0,g4,g5,g6,g7]); all_goals (and_intros <;> rfl))
  ·refine aME ?_
   refine R.zB (p:=q') (left:=(l3++l4).map keyS) (r:=r2) n2 aaI rfl rfl (aj (by (simp only [go_sem]))) rfl (by simp [St.map,lk]) (by simp [St.map,lk,e2,f2,hz,e6,g6]) ?_
   have hstep2:=qI (g:=iM la lb q) hL3 q'
   have aci:=wE (A:=L') (g:=iM la lb q) hpre hp4 hL3
   have hq2:=s2 q' aaI
   have hy:=hr2 q' aaI
   refine aMD ?_
   refine R.fK (by rfl) 11 (by rfl) rfl rfl (aj (by (simp only [go_sem]))) (.cons (.pd _) .nil) (Yc q.2.row (by rw [hx]; omega)) (fun r' m' h=>by simp [lk] at h) (fun r' h=>by simp at h) ?_
   rintro res M' ⟨rfl,rfl⟩ hh; clear hh
   simp only [Behind]
   apply ev8; simp only [go_sem,amo,Int.toNat_one,aF k1,alL]
   repeat refine ⟨by omega,?_⟩
   refine R.fU (fun (z:Nat × List V) s=>St.lp [1,2,3,6,8,10,39,48,61,62,98,99,100,101,102,103,104,105,107] [(63,.pd (I z.1)),(11,.own 11)] [1,5,8,10] [] [] [(11,⟨76,3,z.2.map val⟩)] s) (fun (z:Nat × List V)=>z.1≤lb.length∧gU la q.2.row ((lb.zip q'.2.row).take z.1) q.2.row=some z.2) (fun (z:Nat × List V)=>lb.length - z.1) ((0,q.2.row)) (⟨by show 0≤_; omega,by simp [gU]⟩) ?_ (by (simp only [go_sem,e1,e2,e3,f1,f2,hz,e4,e5,e6,e7,g0,g4,g5,g6,g7]); all_goals (and_intros <;> rfl))
   rintro ⟨i,out⟩ ⟨hi,hout⟩
   simp only at hi hout
   have hol:=FC _ _ _ _ _ hout
   rw [ako,hx] at hol
   refine aMF ?_
   refine ⟨fun h=>?_,fun h=>?_⟩
   ·have hlt:i<lb.length:=by simpa using h
    have hlty:i<q'.2.row.length:=by rw [hy]; exact hlt
    have hlz:i<(lb.zip q'.2.row).length:=by simp; omega
    have hsn:gU la q.2.row ((lb.zip q'.2.row).take (i+1)) q.2.row=gU la q.2.row [(lb[i],q'.2.row[i])] out:=by
     rw [abq hlz,Ac,hout]; simp
    have hdr:uX la lb q.2.row q'.2.row=(gU la q.2.row [(lb[i],q'.2.row[i])] out).bind (gU la q.2.row ((lb.zip q'.2.row).drop (i+1))):=by
     unfold uX
     conv=>lhs; rw [← akz (i+1) (lb.zip q'.2.row),Ac,hsn]
    apply aC; simp only [go_sem,getD_map,hlt]
    repeat refine ⟨by omega,?_⟩
    rcases ai9 la hna lb[i].name with ⟨k,hk1,hk2,hlook⟩ | ⟨hk1,hlook⟩
    ·refine R.F5 (m:=oL (jQ la)) rfl rfl (aj (by (simp only [go_sem]))) rfl (by simp [St.map,lk,e3,e7,g7]) rfl NS hlook ?_
     have hkx:k<q.2.row.length:=by rw [hx]; exact hk2
     refine aME ?_
     refine R.aO 10 80 mixed (by decide +kernel) ?_; simp only [go_sem,getD_map,hkx,hlty]
     repeat refine ⟨by omega,?_⟩
     refine R.kC (Sm q.2.row[k] 1 q'.2.row[i] 0) rfl rfl (.cons (.pd _) (.cons (.pd _) (.cons (.pd _) (.cons (.pd _) (.nil))))) ?_
     refine aMD ?_
     refine ⟨fun h2=>?_,fun h2=>?_⟩
     ·have hno:iy q.2.row[k] 1 q'.2.row[i] 0=false:=by simpa using h2
      have hnone:uX la lb q.2.row q'.2.row=none:=by
       rw [hdr]; simp [gU,hk1,hkx,hno]
      have hg:iM la lb q q'=[]:=by simp [iM,hnone]
      rw [hg,akw] at hstep2
      refine aMD ?_
      refine R.fE (done2++[q'],l3++l4,L2,some (keyS q')) ⟨hp4,hstep2⟩ (hm:=by (subst hz1; show _<_; simp <;> omega)) (l:=by (simp only [go_sem,e1,e2,e3,f1,f2,hz,e4,e5,e6,e7,g0,g4,g5,g6,g7]); all_goals (and_intros <;> rfl))
     ·have hyes:iy q.2.row[k] 1 q'.2.row[i] 0=true:=by simpa using h2
      have Iz:gU la q.2.row ((lb.zip q'.2.row).take (i+1)) q.2.row=some out:=by
       rw [hsn]; simp [gU,hk1,hkx,hyes]
      apply ev8; simp only [go_sem,wrapN (k:=i) (by omega)]
      refine R.fE (i+1,out) ⟨by show i+1≤_; omega,Iz⟩ (hm:=by show _<_; simp; omega) (l:=by (simp only [go_sem,e1,e2,e3,f1,f2,hz,e4,e5,e6,e7,g0,g4,g5,g6,g7]); all_goals (and_intros <;> rfl))
    ·refine R.F5 (m:=oL (jQ la)) rfl rfl (aj (by (simp only [go_sem]))) rfl (by simp [St.map,lk,e3,e7,g7]) rfl NS hlook ?_
     have Iz:gU la q.2.row ((lb.zip q'.2.row).take (i+1)) q.2.row=some (out++[q'.2.row[i]]):=by
      rw [hsn]; simp [gU,hk1]
     apply ah; simp only [go_sem,↓reduceIte,getD_map,hlty]
     repeat refine ⟨by omega,?_⟩
     refine R.aY 1000000000 32 rfl rfl (by (simp only [go_sem])) rfl rfl rfl rfl Dt rfl Dv (by simp) (congrArg (Option.map List.length) Dw) rfl H6 (by simp; omega) (by decide) (by decide) ?_
     apply ev8; simp only [go_sem,wrapN (k:=i) (by omega)]
     refine R.fE (i+1,out++[q'.2.row[i]]) ⟨by show i+1≤_; omega,Iz⟩ (hm:=by show _<_; simp; omega) (l:=by (simp only [go_sem,e1,e2,e3,f1,f2,hz,e4,e5,e6,e7,g0,g4,g5,g6,g7,acC,acn,adR]); all_goals (and_intros <;> rfl))
   ·have hge:lb.length≤i:=by have h':¬ i<lb.length:=(by simpa using h); omega
    have hjr:uX la lb q.2.row q'.2.row=some out:=by
     rw [abT (by simp; omega)] at hout; exact hout
    have hg:iM la lb q q'=[(out,aT (dD q.2.ways q'.2.ways))]:=by simp [iM,hjr]
    rw [hg] at hstep2 aci
    have hm4:=apn hq1.1 hq2.1
    have hb1:=PO q.2.ways q'.2.ways (fun w hw=>by have:=hq1.2 w hw; unfold jy KW at *; omega) (fun w hw=>by have:=hq2.2 w hw; unfold jy KW at *; omega) (by have:=hq1.1; omega) (by have:=hq2.1; omega) (by omega)
    have hb2:=qV (dD q.2.ways q'.2.ways) ⟨by rw [qF]; omega,fun w hw=>by have:=Aa hq1.2 hq2.2 w hw; unfold jy okW at *; omega⟩
    refine aMD ?_
    refine R.bP 11 rfl rfl ?_
    simp only [go_sem]
    refine R.kW (hb1) rfl rfl (.cons (.pd _) (.cons (.pd _) (.nil))) ?_
    refine aMD ?_
    refine R.kW (hb2) rfl rfl (.cons (.pd _) (.nil)) ?_
    refine aMD ?_
    refine R.fK (by rfl) 60 (by rfl) rfl rfl (aj (by (simp only [go_sem]))) (.cons (.pd _) (.cons (.pd _) (.cons (.pd _) .nil))) (BU r L2 (out,aT (dD q.2.ways q'.2.ways)) aci) (fun r' m' h=>?_) (fun r' h=>?_) ?_
    ·simp only [lk] at h
     split at h
     ·rename_i e; subst e; cases h; simp [St.map,lk,e4,g4]
     ·cases h
    ·simp only [adJ] at h; subst h; exact ⟨by simp [lk],.inl hr1'⟩
    rintro res M' ⟨rfl,rfl⟩ hh; clear hh
    simp only [Behind]
    apply ev8; simp only [go_sem,amo,e1,e2,e3,e4,g4]
    refine R.fE (done2++[q'],l3++l4,L2++[(out,aT (dD q.2.ways q'.2.ways))],some (keyS q')) ⟨hp4,hstep2⟩ (hm:=by (subst hz1; show _<_; simp <;> omega)) (l:=by (simp only [go_sem,e1,e2,e3,f1,f2,hz,e4,e5,e6,e7,g0,g4,g5,g6,g7]); all_goals (and_intros <;> rfl))
def jV (n:ByteArray) (L:bD):List W:=L.flatMap fun x=>if rowB x.1=n then x.2 else []
theorem QS (n:ByteArray) (L:bD) (x:List V × List W):jV n (L++[x])=jV n L++(if rowB x.1=n then x.2 else []):=by simp [jV]
theorem yx {n:ByteArray} {L:bD} {w:W}:w∈jV n L↔∃ x∈L,rowB x.1=n∧w∈x.2:=by
 simp only [jV,amb]
 constructor
 ·rintro ⟨x,hx,h⟩
  split at h
  ·rename_i e; exact ⟨x,hx,e,h⟩
  ·simp at h
 ·rintro ⟨x,hx,e,h⟩
  exact ⟨x,hx,by rw [ab8 e]; exact h⟩
theorem PX {n:ByteArray} {row:List V} {l:List W}:∀ {m:AM},(m.map (·.1)).Nodup→∀ p∈iK n row l m,(p∈m∧p.1≠n)∨(p.1=n∧p.2.row=row∧((∃ q∈m,q.1=n∧p.2.ways=q.2.ways++l)∨((∀ q∈m,q.1≠n)∧p.2.ways=l)))
 | [],_,p,hp=>by simp only [iK,adJ] at hp; subst hp; exact .inr ⟨rfl,rfl,.inr ⟨by simp,rfl⟩⟩
 | (n',a)::m,hn,p,hp=>by
  simp only [acn,ane] at hn
  simp only [iK] at hp
  split at hp
  ·rename_i e
   subst e
   rcases aj6.1 hp with rfl | hp
   ·exact .inr ⟨rfl,rfl,.inl ⟨(n',a),adX ..,rfl,rfl⟩⟩
   ·exact .inl ⟨adW _ hp,fun e=>hn.1 (e ▸ acE.2 ⟨p,hp,rfl⟩)⟩
  ·rename_i e
   rcases aj6.1 hp with rfl | hp
   ·exact .inl ⟨adX ..,e⟩
   ·rcases PX hn.2 p hp with ⟨h1,h2⟩ | ⟨h1,h2,⟨q,hq,h3⟩ | ⟨h3,h4⟩⟩
    ·exact .inl ⟨adW _ h1,h2⟩
    ·exact .inr ⟨h1,h2,.inl ⟨q,adW _ hq,h3⟩⟩
    ·refine .inr ⟨h1,h2,.inr ⟨fun q hq=>?_,h4⟩⟩
     rcases aj6.1 hq with rfl | hq
     ·exact e
     ·exact h3 q hq
theorem Ad (L:bD):(∀ p∈bg L,p.2.ways=jV p.1 L∧∃ x∈L,p.1=rowB x.1∧p.2.row=x.1)∧∀ n,n∈(bg L).map (·.1)↔∃ x∈L,rowB x.1=n:=by
 refine foldl_rev (P:=fun L m=>(m.map (·.1)).Nodup∧(∀ p∈m,p.2.ways=jV p.1 L∧∃ x∈L,p.1=rowB x.1∧p.2.row=x.1)∧∀ n,n∈m.map (·.1)↔∃ x∈L,rowB x.1=n) ⟨by simp,by simp,by simp⟩ ?_ L |>.2
 rintro L x m ⟨hn,h1,h2⟩
 have hkeys:∀ n,n∈(iK (rowB x.1) x.1 x.2 m).map (·.1)↔∃ y∈L++[x],rowB y.1=n:=by
  intro n
  rw [Fj,h2 n]
  constructor
  ·rintro (rfl | ⟨y,hy,e⟩)
   ·exact ⟨x,by simp,rfl⟩
   ·exact ⟨y,apg _ hy,e⟩
  ·rintro ⟨y,hy,e⟩
   rcases aj8.1 hy with hy | hy
   ·exact .inr ⟨y,hy,e⟩
   ·rw [adJ.1 hy] at e; exact .inl e.symm
 refine ⟨yt hn,fun p hp=>?_,hkeys⟩
 rw [QS]
 rcases PX hn p hp with ⟨hm,hne⟩ | ⟨hpn,hrow,hw⟩
 ·obtain ⟨e1,y,hy,e2⟩:=h1 p hm
  exact ⟨by rw [e1,abQ (fun e=>hne e.symm),akw],y,apg _ hy,e2⟩
 ·refine ⟨?_,x,by simp,hpn,hrow⟩
  rw [ab8 hpn.symm]
  rcases hw with ⟨q,hq,JF,e⟩ | ⟨hno,e⟩
  ·rw [e,(h1 q hq).1,JF,hpn]
  ·rw [e]
   have:jV p.1 L=[]:=by
    rw [ari]
    intro w hw
    obtain ⟨y,hy,e2,_⟩:=yx.1 hw
    have:p.1∈m.map (·.1):=(h2 _).2 ⟨y,hy,e2⟩
    obtain ⟨q,hq,e3⟩:=acE.1 this
    exact hno q hq (e3.trans hpn)
   rw [this]; rfl
def tX (L:bD):Prop:=∀ x∈L,∀ y∈L,rowB x.1=rowB y.1→x.1=y.1
theorem yA {L:bD} (hi:tX L) (q:ByteArray × Ans):q∈dB (bg L)↔∃ x∈L,q=(rowB x.1,⟨x.1,aT (jV (rowB x.1) L)⟩)∧(aT (jV (rowB x.1) L)).length≠0:=by
 obtain ⟨h1,h2⟩:=Ad L
 simp only [dB,aoR]
 constructor
 ·rintro ⟨p,hp,hc⟩
  obtain ⟨e1,x,hx,e2,e3⟩:=h1 p hp
  unfold lV at hc
  rw [e1,e2,e3] at hc
  split at hc
  ·cases hc
  ·rename_i hne; cases hc; exact ⟨x,hx,rfl,hne⟩
 ·rintro ⟨x,hx,rfl,hne⟩
  obtain ⟨p,hp,e⟩:=acE.1 ((h2 (rowB x.1)).2 ⟨x,hx,rfl⟩)
  obtain ⟨e1,y,hy,e2,e3⟩:=h1 p hp
  have exy:y.1=x.1:=hi y hy x hx (by rw [← e2,e])
  refine ⟨p,hp,?_⟩
  unfold lV
  rw [e1,e,e3,exy,abQ hne]
theorem qL {m:AM} (h:(m.map (·.1)).Nodup):((dB m).map (·.1)).Nodup:=by
 have:=Fv (D:=m.map (·.1)) h
 rwa [JH (fun p hp=>acE.2 ⟨p,hp,rfl⟩)] at this
theorem uY {α β:Type} {f:α→β} {l:List α} (h:(l.map f).Nodup):l.Nodup:=by
 simp only [apk,anp] at h ⊢
 exact h.imp fun h e=>h (by rw [e])
theorem wP {L M:bD} (h:L.Perm M) (n:ByteArray):aT (jV n L)=aT (jV n M):=
 Zn fun w=>by simp only [yx]; exact ⟨fun ⟨x,hx,r⟩=>⟨x,h.mem_iff.1 hx,r⟩,fun ⟨x,hx,r⟩=>⟨x,h.mem_iff.2 hx,r⟩⟩
theorem tX.perm {L M:bD} (h:L.Perm M) (hi:tX L):tX M:=fun x hx y hy=>hi x (h.mem_iff.2 hx) y (h.mem_iff.2 hy)
theorem AU {L M:bD} (h:L.Perm M) (hi:tX L):(dB (bg L)).Perm (dB (bg M)):=by
 refine (List.perm_ext_iff_of_nodup (uY (qL (gZ L))) (uY (qL (gZ M)))).2 fun q=>?_
 rw [yA hi,yA (hi.perm h)]
 constructor
 ·rintro ⟨x,hx,h1,h2⟩
  rw [wP h] at h1 h2
  exact ⟨x,h.mem_iff.1 hx,h1,h2⟩
 ·rintro ⟨x,hx,h1,h2⟩
  rw [← wP h] at h1 h2
  exact ⟨x,h.mem_iff.2 hx,h1,h2⟩
theorem wQ (L:bD):iL (bg L)↔(∀ x∈L,(aT (jV (rowB x.1) L)).length≤400)∧(dB (bg L)).length≤1000:=by
 obtain ⟨h1,h2⟩:=Ad L
 unfold iL
 refine and_congr ⟨fun h x hx=>?_,fun h p hp=>?_⟩ Iff.rfl
 ·obtain ⟨p,hp,e⟩:=acE.1 ((h2 (rowB x.1)).2 ⟨x,hx,rfl⟩)
  have:=h p hp
  rw [(h1 p hp).1,e] at this; exact this
 ·obtain ⟨e1,x,hx,e2,_⟩:=h1 p hp
  rw [e1,e2]; exact h x hx
theorem zD {L M:bD} (h:L.Perm M) (hi:tX L):iL (bg L)↔iL (bg M):=by
 rw [wQ,wQ,(AU h hi).length_eq]
 refine and_congr ⟨fun h1 x hx=>?_,fun h1 x hx=>?_⟩ Iff.rfl
 ·rw [← wP h]; exact h1 x (h.mem_iff.2 hx)
 ·rw [wP h]; exact h1 x (h.mem_iff.1 hx)
def dI (row:List V):Prop:=∀ v∈row,dF v=true
def vO (n:Nat) (w:W):Prop:=(∀ x∈w.pos,0≤x∧x<n)∧∀ x∈w.neg,0≤x∧x<n
def yM (w:W):Prop:=w.pos.Pairwise (· < ·)∧w.neg.Pairwise (· < ·)
structure ig (n c:Nat) (m:AM):Prop where
 nodup:(m.map (·.1)).Nodup
 len:m.length≤1000
 name:∀ q∈m,q.1=rowB q.2.row
 valid:∀ q∈m,dI q.2.row
 width:∀ q∈m,q.2.row.length=c
 few:∀ q∈m,q.2.ways.length≤400
 some:∀ q∈m,q.2.ways≠[]
 xG:∀ q∈m,∀ w∈q.2.ways,vO n w
 min:∀ q∈m,aT q.2.ways=q.2.ways
structure Adds (n c:Nat) (L:bD):Prop where
 valid:∀ x∈L,dI x.1
 width:∀ x∈L,x.1.length=c
 xG:∀ x∈L,∀ w∈x.2,vO n w
 iw:∀ x∈L,∀ w∈x.2,yM w
 sum:sumW L≤500000000000
theorem aaJ {n:Nat} {w:W} (h:vO n w):vO n (jq w):=⟨fun x hx=>h.1 x ((zf x _).1 hx),fun x hx=>h.2 x ((zf x _).1 hx)⟩
theorem KY {n:Nat} {l:List W} (h:∀ w∈l,vO n w):∀ w∈aT l,vO n w:=by
 intro w hw
 obtain ⟨y,hy,rfl⟩:=Iw hw
 exact aaJ (h y hy)
theorem aaK {n:Nat} {x y:W} (hx:vO n x) (hy:vO n y):vO n (kP x y):=
 ⟨fun z hz=>(aj8.1 hz).elim (hx.1 z) (hy.1 z),fun z hz=>(aj8.1 hz).elim (hx.2 z) (hy.2 z)⟩
theorem PY {n:Nat} {a b:List W} (ha:∀ w∈a,vO n w) (hb:∀ w∈b,vO n w):∀ w∈dD a b,vO n w:=by
 intro w hw
 simp only [dD,amb,acE] at hw
 obtain ⟨x,hx,y,hy,rfl⟩:=hw
 exact aaK (ha x hx) (hb y hy)
theorem JK {n:Nat}:∀ (l:List Int) (a:Int),l.Pairwise (· < ·)→(∀ x∈l,a≤x∧x<n)→(l.length:Int)≤(n:Int) - a∨l=[]
 | [],_,_,_=>.inr rfl
 | x::l,a,h,hx=>by
  rw [amf] at h
  have h1:=hx x (adX ..)
  rcases JK l (x+1) h.2 (fun y hy=>⟨by have:=h.1 y hy; omega,(hx y (adW _ hy)).2⟩) with h2 | rfl
  ·left; simp only [agX]; omega
  ·left; simp only [agX,aj7]; omega
theorem tY {n:Nat} {l:List Int} (h:l.Pairwise (· < ·)) (hx:∀ x∈l,0≤x∧x<n):l.length≤n:=by
 rcases JK l 0 h hx with h1 | rfl
 ·omega
 ·simp
theorem rO {l:List W} {w:W} (h:w∈aT l):w.pos.Pairwise (· < ·)∧w.neg.Pairwise (· < ·):=by
 obtain ⟨y,_,rfl⟩:=Iw h
 exact ⟨lF _,lF _⟩
theorem ig.lens {n c:Nat} {m:AM} (h:ig n c m) (hn:n≤1000000):FB m:=by
 refine fun q hq=>⟨h.few q hq,fun w hw=>?_⟩
 have hi:=h.xG q hq w hw
 rw [← h.min q hq] at hw
 obtain ⟨h1,h2⟩:=rO hw
 have a:=tY h1 hi.1; have b:=tY h2 hi.2
 exact ⟨by omega,by omega⟩
theorem ig.iw {n c:Nat} {m:AM} (h:ig n c m):∀ q∈m,∀ w∈q.2.ways,yM w:=fun q hq w hw=>by
 rw [← h.min q hq] at hw; exact rO hw
theorem aaL (row:List V) (c:Nat) (h:∀ v∈row,(bytes (eX v)).length+1≤c):(iP row).length≤c * row.length:=by
 induction row with
 | nil=>simp [iP]
 | cons v l ih=>
  have h1:=h v (adX ..)
  have h2:=ih fun u hu=>h u (adW _ hu)
  have:iP (v::l)=bytes (eX v)++[32]++iP l:=rfl
  rw [this]
  simp only [agU,agX,aj7,Nat.mul_add,anB]; omega
theorem aaM (l:List UInt8):(bf l).length≤2 * l.length:=by
 induction l with
 | nil=>simp [bf]
 | cons c l ih=>
  have:bf (c::l)=iZ c++bf l:=rfl
  rw [this,agU,agX]
  have:(iZ c).length≤2:=by unfold iZ; repeat' split
                           all_goals simp
  omega
theorem Yd {v:V} (h:dF v=true):(bytes (eX v)).length+1≤404:=by
 have hn:=SL h
 unfold eX
 rw [h]
 simp only [ao3,akC,aku]
 split
 ·rename_i hk
  have ht:v.text.size≤200:=by
   unfold dF at h
   simp [hk] at h
   exact h.1
  have:=aaM (bytes v.text)
  have hb:(bytes v.text).length=v.text.size:=Array.length_toList
  simp only [qC,bytes,agX,agU,aj7] at this hb ⊢
  omega
 ·split
  ·have:=arU v.n (by omega) (by omega)
   simp only [bytes]; omega
  ·split
   ·have:=arU v.n (by omega) (by omega)
    simp only [bytes,agX]; omega
   ·split
    ·have:(apm (v.n == 1)).length≤5:=by cases (v.n == 1) <;> decide
     simp only [bytes]; omega
    ·simp [bytes]
theorem PZ {row:List V} (h:dI row) (hl:row.length≤200000000):UO row:=by
 refine ⟨by omega,?_⟩
 have:=aaL row 404 fun v hv=>Yd (h v hv)
 omega
theorem Adds.ok {n c:Nat} {L:bD} (h:Adds n c L) (hc:c≤200000000):okD L:=⟨fun x hx=>PZ (h.valid x hx) (by rw [h.width x hx]; exact hc),h.sum⟩
theorem Adds.perm {n c:Nat} {L M:bD} (p:L.Perm M) (h:Adds n c L):Adds n c M:=⟨fun x hx=>h.valid x (p.mem_iff.2 hx),fun x hx=>h.width x (p.mem_iff.2 hx),fun x hx=>h.xG x (p.mem_iff.2 hx),fun x hx=>h.iw x (p.mem_iff.2 hx),by rw [← MC p]; exact h.sum⟩
theorem Adds.vN {n c:Nat} {L:bD} (h:Adds n c L) (hn:n≤1000000):∀ p∈bg L,vN p.2.ways:=by
 intro p hp
 refine ⟨by have:=MF L p hp; have:=h.sum; omega,fun w hw=>?_⟩
 rw [((Ad L).1 p hp).1] at hw
 obtain ⟨x,hx,_,hw⟩:=yx.1 hw
 have h1:=h.xG x hx w hw; have h2:=h.iw x hx w hw
 have a:=tY h2.1 h1.1; have b:=tY h2.2 h1.2
 exact ⟨by omega,by omega⟩
theorem Adds.clo {n c:Nat} {L:bD} (h:Adds n c L) (ho:iL (bg L)):ig n c (dB (bg L)):=by
 obtain ⟨h1,h2⟩:=Ad L
 have hm:∀ q∈dB (bg L),∃ p∈bg L,∃ x∈L,q=(rowB x.1,⟨x.1,aT p.2.ways⟩)∧p.2.ways=jV p.1 L∧(aT p.2.ways).length≠0:=by
  intro q hq
  obtain ⟨p,hp,hc⟩:=aoR.1 hq
  obtain ⟨e1,x,hx,e2,e3⟩:=h1 p hp
  unfold lV at hc
  split at hc
  ·cases hc
  ·rename_i hne; cases hc; exact ⟨p,hp,x,hx,by rw [e2,e3],e1,hne⟩
 refine ⟨qL (gZ L),ho.2,fun q hq=>?_,fun q hq=>?_,fun q hq=>?_,fun q hq=>?_,fun q hq=>?_,fun q hq=>?_,fun q hq=>?_⟩
 all_goals obtain ⟨p,hp,x,hx,rfl,e1,hne⟩:=hm q hq
 ·rfl
 ·exact h.valid x hx
 ·exact h.width x hx
 ·exact ho.1 p hp
 ·intro e
  have e:aT p.2.ways=[]:=e
  exact hne (by rw [e]; rfl)
 ·refine KY fun w hw=>?_
  rw [e1] at hw
  obtain ⟨y,hy,_,h3⟩:=yx.1 hw
  exact h.xG y hy w h3
 ·exact W9 _
def kQ (t:Int) (facts:List cZ):bD:=facts.zipIdx.flatMap fun q=>if q.1.table=t then [(q.1.row,[⟨[(q.2:Int)],[]⟩])] else []
def bZ (p:Plan) (facts:List cZ) (ms:List AM):Option bD:=
 if p.kind=1 then some (kQ p.table facts) else match p.kids,ms with
 | [_],[m]=>if p.kind=2 then some (m.flatMap (oK p)) else if p.kind=3 then some (m.flatMap (qW p)) else some (gq m)
 | [k0,k1],[m1,m2]=>if p.kind=4 then some (m1.flatMap fun q=>m2.flatMap (iM k0.attrs k1.attrs q)) else if p.kind=5 then some (gq m1++gq m2)
   else if m1.all fun q=>(iO m2 q).isSome then some (m1.flatMap (jU m2)) else none
 | _,_=>none
def Ae (facts:List cZ):Nat→Plan→AM→Prop
 | 0,_,_=>False
 | n+1,p,m=>∃ ms:List AM,ms.length=p.kids.length∧(∀ i (h:i<p.kids.length) (h2:i<ms.length),Ae facts n p.kids[i] ms[i])∧∃ L0 L,bZ p facts ms=some L0∧L.Perm L0∧iL (bg L)∧m=dB (bg L)
def MG (facts:List cZ):Nat→Plan→Prop
 | 0,_=>False
 | n+1,p=>(∃ i,∃ h:i<p.kids.length,MG facts n p.kids[i])∨∃ ms:List AM,ms.length=p.kids.length∧(∀ i (h:i<p.kids.length) (h2:i<ms.length),Ae facts n p.kids[i] ms[i]) ∧
   (bZ p facts ms=none∨∃ L0 L,bZ p facts ms=some L0∧L.Perm L0∧¬ iL (bg L))
def jZ (tl:List bJ) (facts:List cZ):Prop:=facts.length≤4000∧∀ f∈facts,0≤f.table∧∃ h:f.table.toNat<tl.length,fitsV (tl[f.table.toNat]).attrs f.row=true
inductive Shape (tl:List bJ) (n:Nat) (p:Plan):Prop
 | table (hk:p.kind=1) (hks:p.kids=[]) (h0:0≤p.table) (h1:p.table.toNat<tl.length) (hl:p.attrs.length=(tl[p.table.toNat]).attrs.length)
 | sel (hk:p.kind=2) (q:Plan) (hks:p.kids=[q]) (hq:aX n tl q=true) (hs:AA p q=true) (hl:p.attrs.length=q.attrs.length)
 | proj (hk:p.kind=3) (q:Plan) (hks:p.kids=[q]) (hq:aX n tl q=true) (hc:∀ c∈p.cols,0≤c∧c.toNat<q.attrs.length) (hl:p.attrs.length=p.cols.length)
 | join (hk:p.kind=4) (q r:Plan) (hks:p.kids=[q,r]) (hq:aX n tl q=true) (hr:aX n tl r=true) (hn:(q.attrs.map (·.name)).Nodup) (hl:∃ l,iC q.attrs q.attrs r.attrs=some l∧p.attrs.length=l.length)
 | union (hk:p.kind=5) (q r:Plan) (hks:p.kids=[q,r]) (hq:aX n tl q=true) (hr:aX n tl r=true) (hl:p.attrs.length=q.attrs.length) (hl2:p.attrs.length=r.attrs.length)
 | minus (hk:p.kind=6) (q r:Plan) (hks:p.kids=[q,r]) (hq:aX n tl q=true) (hr:aX n tl r=true) (hl:p.attrs.length=q.attrs.length) (hl2:p.attrs.length=r.attrs.length)
 | ren (hk:p.kind=7) (q:Plan) (hks:p.kids=[q]) (hq:aX n tl q=true) (hl:p.attrs.length=q.attrs.length)
theorem DV {a b:List Attr} (h:bG a b=true):a.length=b.length:=by
 unfold bG at h; simp at h; exact h.1
theorem MH {α:Type} (l:List α):∀ (cs:List Int) (out:List α),dO l cs=some out→∀ c∈cs,0≤c∧c.toNat<l.length
 | [],_,_,c,hc=>by simp at hc
 | x::cs,out,h,c,hc=>by
  simp only [dO] at h
  split at h
  ·rename_i hx
   rcases aj6.1 hc with rfl | hc
   ·exact hx
   ·cases e:dO l cs with
    | none=>simp [e] at h
    | some o=>exact MH l cs o e c hc
  ·cases h
theorem nY (a b:ByteArray):eqS a b=true↔a=b:=by
 unfold eqS
 rw [aod]
 constructor
 ·intro h
  have:a.data.toList=b.data.toList:=by
   have h1:∀ c:ByteArray,c.toList=c.data.toList:=fun c=>ByteArray.toList_eq c
   rw [← h1,← h1,h]
  cases a; cases b; congr 1; exact Array.toList_inj.1 this
 ·rintro rfl; rfl
theorem P5 {l:List Attr} (h:uT l=true):(l.map (·.name)).Nodup:=by
 unfold uT at h
 rw [agi] at h
 rw [apk,anp,ajZ]
 intro i j hi hj hij e
 have h1:=h (l[j],j) (by rw [aox]; exact ⟨j,by simpa using hj,by simp⟩)
 simp only [ame] at h1
 have h2:gy l l[j].name≤(i:Int):=by
  unfold gy jE
  cases hf:l.findIdx? (fun t=>eqS t.name l[j].name) with
  | none=>simp <;> omega
  | some k=>
   rw [akB] at hf
   obtain ⟨hk,_,hmin⟩:=hf
   simp only
   rcases aky i k with hlt | hge
   ·have:=hmin i hlt
    rw [(nY _ _).2 e] at this; simp at this
   ·omega
 omega
theorem jW {α:Type}:∀ {l:List α},l.length=2→∃ q r,l=[q,r]
 | [q,r],_=>⟨q,r,rfl⟩
theorem rP {tl:List bJ} {n:Nat} {p:Plan} (h:aX (n+1) tl p=true) (h8:p.kind≠8):Shape tl n p:=by
 simp only [aX,aj0,ame] at h
 obtain ⟨⟨⟨⟨hk,hks⟩,_⟩,_⟩,hw⟩:=h
 rw [agi] at hks
 cases jd:eU tl p with
 | none=>rw [jd] at hw; cases hw
 | some l=>
  rw [jd] at hw
  have hl:=DV hw
  unfold eU at jd
  unfold qx at hk
  by_cases h1:p.kind=1
  ·simp only [h1,akl,adQ] at hk
   rw [ab8 h1] at jd
   unfold mM at jd
   split at jd
   ·rename_i hc
    cases jd
    refine .table h1 (aks.1 hk.symm) hc.1 hc.2 ?_
    rw [← hl]; simp [vZ]
   ·cases jd
  rw [abQ h1] at jd hk
  by_cases h4:p.kind=4∨p.kind=5∨p.kind=6
  ·have hk2:p.kids.length=2:=by
    rcases h4 with h | h | h <;> simp [h] at hk <;> omega
   obtain ⟨q,r,hqr⟩:=jW hk2
   have hq:=hks q (by rw [hqr]; simp)
   have hr:=hks r (by rw [hqr]; simp)
   rw [hqr] at jd
   simp only at jd
   rcases h4 with h | h | h
   ·rw [ab8 h] at jd
    refine .join h q r hqr hq hr ?_ ⟨l,jd,hl.symm⟩
    cases n with
    | zero=>simp [aX] at hq
    | succ n=>
     simp only [aX,aj0] at hq
     exact P5 hq.1.2
   ·rw [abQ (by omega),ab8 (.inl h)] at jd
    unfold wo at jd
    split at jd
    ·rename_i ha; cases jd
     exact .union h q r hqr hq hr hl.symm (by rw [← hl]; exact DV ha)
    ·cases jd
   ·rw [abQ (by omega),ab8 (.inr h)] at jd
    unfold wo at jd
    split at jd
    ·rename_i ha; cases jd
     exact .minus h q r hqr hq hr hl.symm (by rw [← hl]; exact DV ha)
    ·cases jd
  by_cases h2:p.kind=2∨p.kind=3∨p.kind=7
  ·have hk2:p.kids.length=1:=by
    rcases h2 with h | h | h <;> simp [h] at hk <;> omega
   obtain ⟨q,hqr⟩:=ajV.1 hk2
   have hq:=hks q (by rw [hqr]; simp)
   rw [hqr] at jd
   simp only at jd
   rcases h2 with h | h | h
   ·rw [ab8 h] at jd
    unfold wo at jd
    split at jd
    ·rename_i ha; cases jd
     exact .sel h q hqr hq ha hl.symm
    ·cases jd
   ·rw [abQ (by omega),ab8 h] at jd
    exact .proj h q hqr hq (MH _ _ _ jd) (by rw [← hl]; exact tu _ _ _ jd)
   ·rw [abQ (by omega),abQ (by omega),ab8 h] at jd
    unfold nU at jd
    split at jd
    ·rename_i hc; cases jd
     exact .ren h q hqr hq hc.2
    ·cases jd
  ·exfalso
   have:¬ (p.kind=2∨p.kind=3∨p.kind=4∨p.kind=5∨p.kind=6∨p.kind=7∨p.kind=8):=by omega
   rw [abQ (by omega),abQ (by omega),abQ (by omega),abQ (by omega),abQ (by omega),abQ (by omega),abQ h8] at hk
   cases hk
theorem JL {l:List Attr} {row:List V} (h:fitsV l row=true):row.length=l.length∧dI row:=by
 unfold fitsV at h
 simp only [aj0,ame] at h
 refine ⟨h.1,fun v hv=>?_⟩
 obtain ⟨i,hi,rfl⟩:=agY hv
 have:=(agi.1 h.2) (l[i]'(by omega),row[i]) (by rw [aox]; exact ⟨i,by simp; omega,by simp⟩)
 unfold pU at this
 simp only [aj0] at this
 exact this.1
theorem pI {α:Type} (c:Nat) (g:α→bD):∀ (l:List α),(∀ x∈l,sumW (g x)≤c)→sumW (l.flatMap g)≤c * l.length
 | [],_=>by simp [sumW]
 | x::l,h=>by
  have h1:=h x (adX ..)
  have h2:=pI c g l fun y hy=>h y (adW _ hy)
  rw [akg,Ir,agX,Nat.mul_add,anB]; omega
theorem sG (row:List V) (l:List W):sumW [(row,l)]=l.length:=by simp [sumW]
theorem UQ {tl:List bJ} {facts:List cZ} (hf:jZ tl facts) {t:Int} (h0:0≤t) (h1:t.toNat<tl.length):Adds facts.length (tl[t.toNat]).attrs.length (kQ t facts):=by
 have hm:∀ x∈kQ t facts,∃ i,∃ h:i<facts.length,facts[i].table=t∧x=(facts[i].row,[⟨[(i:Int)],[]⟩]):=by
  intro x hx
  simp only [kQ,amb] at hx
  obtain ⟨⟨f,i⟩,hq,hx⟩:=hx
  split at hx
  ·rename_i e
   obtain ⟨hi,hfi⟩:=List.mem_zipIdx' hq
   exact ⟨i,hi,by rw [← hfi]; exact e,by rw [← hfi]; simpa using hx⟩
  ·simp at hx
 have hrow:∀ i (h:i<facts.length),facts[i].table=t→facts[i].row.length=(tl[t.toNat]).attrs.length∧dI facts[i].row:=by
  intro i h e
  obtain ⟨_,h3,h4⟩:=hf.2 facts[i] (ab5 h)
  have:=JL h4
  simp only [e] at this
  exact this
 refine ⟨fun x hx=>?_,fun x hx=>?_,fun x hx w hw=>?_,fun x hx w hw=>?_,?_⟩
 ·obtain ⟨i,hi,e,rfl⟩:=hm x hx; exact (hrow i hi e).2
 ·obtain ⟨i,hi,e,rfl⟩:=hm x hx; exact (hrow i hi e).1
 ·obtain ⟨i,hi,e,rfl⟩:=hm x hx
  rw [adJ.1 hw]
  exact ⟨fun z hz=>by rw [adJ.1 hz]; omega,fun z hz=>by simp at hz⟩
 ·obtain ⟨i,hi,e,rfl⟩:=hm x hx
  rw [adJ.1 hw]
  exact ⟨by simp,by simp⟩
 ·have:=pI 1 (fun q:cZ × Nat=>if q.1.table=t then [(q.1.row,[(⟨[(q.2:Int)],[]⟩:W)])] else []) facts.zipIdx (fun q _=>by by_cases h:q.1.table=t <;> simp [h,sumW])
  have hl:=hf.1
  simp only [arX] at this
  unfold kQ; omega
theorem IB {n c:Nat} {m:AM} (h:ig n c m):Adds n c (gq m):=by
 refine ⟨fun x hx=>?_,fun x hx=>?_,fun x hx=>?_,fun x hx=>?_,?_⟩
 ·obtain ⟨q,hq,hx⟩:=amb.1 hx
  rw [adJ.1 hx]; exact h.valid q hq
 ·obtain ⟨q,hq,hx⟩:=amb.1 hx
  rw [adJ.1 hx]; exact h.width q hq
 ·obtain ⟨q,hq,hx⟩:=amb.1 hx
  rw [adJ.1 hx]; exact h.xG q hq
 ·obtain ⟨q,hq,hx⟩:=amb.1 hx
  rw [adJ.1 hx]; exact h.iw q hq
 ·have:sumW (gq m)≤400 * m.length:=pI 400 add1 m fun q hq=>by rw [sG]; exact h.few q hq
  have:=h.len; omega
theorem aaN {n c:Nat} {L M:bD} (h1:∀ x∈L,dI x.1∧x.1.length=c∧(∀ w∈x.2,vO n w)∧∀ w∈x.2,yM w) (h2:∀ x∈M,dI x.1∧x.1.length=c∧(∀ w∈x.2,vO n w)∧∀ w∈x.2,yM w) (hs:sumW L+sumW M≤500000000000):Adds n c (L++M):=
 ⟨fun x hx=>(aj8.1 hx).elim (fun h=>(h1 x h).1) (fun h=>(h2 x h).1),fun x hx=>(aj8.1 hx).elim (fun h=>(h1 x h).2.1) (fun h=>(h2 x h).2.1),fun x hx=>(aj8.1 hx).elim (fun h=>(h1 x h).2.2.1) (fun h=>(h2 x h).2.2.1),fun x hx=>(aj8.1 hx).elim (fun h=>(h1 x h).2.2.2) (fun h=>(h2 x h).2.2.2),by rw [Ir]; exact hs⟩
theorem UR {n c:Nat} {m1 m2:AM} (h1:ig n c m1) (h2:ig n c m2):Adds n c (gq m1++gq m2):=by
 have a:=IB h1; have b:=IB h2
 refine aaN (fun x hx=>⟨a.valid x hx,a.width x hx,a.xG x hx,a.iw x hx⟩) (fun x hx=>⟨b.valid x hx,b.width x hx,b.xG x hx,b.iw x hx⟩) ?_
 have s1:sumW (gq m1)≤400 * m1.length:=pI 400 add1 m1 fun q hq=>by rw [sG]; exact h1.few q hq
 have s2:sumW (gq m2)≤400 * m2.length:=pI 400 add1 m2 fun q hq=>by rw [sG]; exact h2.few q hq
 have:=h1.len; have:=h2.len; omega
theorem aaO {n c:Nat} {m:AM} (p:Plan) (h:ig n c m):Adds n c (m.flatMap (oK p)):=by
 have hm:∀ x∈m.flatMap (oK p),∃ q∈m,x=(q.2.row,q.2.ways):=by
  intro x hx
  obtain ⟨q,hq,hx⟩:=amb.1 hx
  unfold oK at hx
  split at hx
  ·simp at hx
  ·exact ⟨q,hq,adJ.1 hx⟩
 refine ⟨fun x hx=>?_,fun x hx=>?_,fun x hx=>?_,fun x hx=>?_,?_⟩
 ·obtain ⟨q,hq,rfl⟩:=hm x hx; exact h.valid q hq
 ·obtain ⟨q,hq,rfl⟩:=hm x hx; exact h.width q hq
 ·obtain ⟨q,hq,rfl⟩:=hm x hx; exact h.xG q hq
 ·obtain ⟨q,hq,rfl⟩:=hm x hx; exact h.iw q hq
 ·have:=pI 400 (oK p) m fun q hq=>by
   unfold oK
   split
   ·simp [sumW]
   ·rw [sG]; exact h.few q hq
  have:=h.len; omega
theorem Ye {n c:Nat} {m:AM} (p:Plan) (h:ig n c m) (hc:∀ x∈p.cols,0≤x∧x.toNat<c):Adds n p.cols.length (m.flatMap (qW p)):=by
 have hm:∀ x∈m.flatMap (qW p),∃ q∈m,x=(lD q.2.row p.cols,q.2.ways):=by
  intro x hx
  obtain ⟨q,hq,hx⟩:=amb.1 hx
  exact ⟨q,hq,adJ.1 hx⟩
 refine ⟨fun x hx=>?_,fun x hx=>?_,fun x hx=>?_,fun x hx=>?_,?_⟩
 ·obtain ⟨q,hq,rfl⟩:=hm x hx
  intro v hv
  obtain ⟨y,hy,rfl⟩:=acE.1 hv
  have h1:=(hc y hy).2
  have hw:=h.width q hq
  have:q.2.row.getD y.toNat V.zero=q.2.row[y.toNat]:=by simp [hw,h1]
  rw [this]
  exact h.valid q hq _ (ab5 (by omega))
 ·obtain ⟨q,hq,rfl⟩:=hm x hx; simp [lD]
 ·obtain ⟨q,hq,rfl⟩:=hm x hx; exact h.xG q hq
 ·obtain ⟨q,hq,rfl⟩:=hm x hx; exact h.iw q hq
 ·have:=pI 400 (qW p) m fun q hq=>by rw [qW,sG]; exact h.few q hq
  have:=h.len; omega
theorem JM:∀ (ys l l':List W),dS l ys=some l'→l.length≤400→l'.length≤400
 | [],l,l',h,h4=>by simp only [dS,adQ] at h; subst h; exact h4
 | y::ys,l,l',h,h4=>by
  simp only [dS] at h
  split at h
  ·rename_i h1; exact JM ys _ l' h h1
  ·cases h
theorem MI {n:Nat}:∀ (ys l l':List W),dS l ys=some l'→(∀ w∈l,vO n w)→(∀ w∈ys,vO n w)→∀ w∈l',vO n w
 | [],l,l',h,hl,_=>by simp only [dS,adQ] at h; subst h; exact hl
 | y::ys,l,l',h,hl,hy=>by
  simp only [dS] at h
  split at h
  ·refine MI ys _ l' h (KY (PY hl fun w hw=>?_)) fun w hw=>hy w (adW _ hw)
   have hyy:=hy y (adX ..)
   simp only [jY,aj8,acE] at hw
   rcases hw with ⟨v,hv,rfl⟩ | ⟨v,hv,rfl⟩
   ·exact ⟨fun z hz=>by simp [qK] at hz,fun z hz=>by simp [qK] at hz; subst hz; exact hyy.1 _ hv⟩
   ·exact ⟨fun z hz=>by simp [uV] at hz; subst hz; exact hyy.2 _ hv,fun z hz=>by simp [uV] at hz⟩
  ·cases h
theorem JO:∀ (ys l l':List W),dS l ys=some l'→(∀ w∈l,yM w)→∀ w∈l',yM w
 | [],l,l',h,hl=>by simp only [dS,adQ] at h; subst h; exact hl
 | y::ys,l,l',h,hl=>by
  simp only [dS] at h
  split at h
  ·exact JO ys _ l' h fun w hw=>rO hw
  ·cases h
theorem Yf {m:AM} {x:ByteArray} {l:List W} (h:nV x m=some l):∃ q∈m,q.1=x∧q.2.ways=l:=by
 induction m with
 | nil=>cases h
 | cons q m ih=>
  obtain ⟨y,a⟩:=q
  simp only [nV] at h
  split at h
  ·rename_i e; cases h; exact ⟨(y,a),adX ..,e,rfl⟩
  ·obtain ⟨q,hq,h2⟩:=ih h; exact ⟨q,adW _ hq,h2⟩
theorem MJ {n c d:Nat} {m1 m2:AM} (h1:ig n c m1) (h2:ig n d m2) {q:ByteArray × Ans} (hq:q∈m1):((iO m2 q).getD []).length≤400∧∀ w∈(iO m2 q).getD [],vO n w:=by
 cases e:iO m2 q with
 | none=>simp
 | some l=>
  unfold iO at e
  refine ⟨JM _ _ _ e (h1.few q hq),MI _ _ _ e (h1.xG q hq) fun w hw=>?_⟩
  cases e2:nV q.1 m2 with
  | none=>rw [e2] at hw; simp at hw
  | some l2=>
   rw [e2] at hw
   obtain ⟨q2,hq2,_,rfl⟩:=Yf e2
   exact h2.xG q2 hq2 w hw
theorem JQ {n c d:Nat} {m1 m2:AM} (h1:ig n c m1) (h2:ig n d m2):Adds n c (m1.flatMap (jU m2)):=by
 have hm:∀ x∈m1.flatMap (jU m2),∃ q∈m1,x=(q.2.row,(iO m2 q).getD []):=by
  intro x hx
  obtain ⟨q,hq,hx⟩:=amb.1 hx
  exact ⟨q,hq,adJ.1 hx⟩
 refine ⟨fun x hx=>?_,fun x hx=>?_,fun x hx=>?_,fun x hx=>?_,?_⟩
 ·obtain ⟨q,hq,rfl⟩:=hm x hx; exact h1.valid q hq
 ·obtain ⟨q,hq,rfl⟩:=hm x hx; exact h1.width q hq
 ·obtain ⟨q,hq,rfl⟩:=hm x hx; exact (MJ h1 h2 hq).2
 ·obtain ⟨q,hq,rfl⟩:=hm x hx
  cases e:iO m2 q with
  | none=>simp
  | some l=>exact JO _ _ _ e (h1.iw q hq)
 ·have:=pI 400 (jU m2) m1 fun q hq=>by rw [jU,sG]; exact (MJ h1 h2 hq).1
  have:=h1.len; omega
theorem AV {la:List Attr} {x:List V} (hx:x.length=la.length):∀ (bs:List Attr) (ys:List V) (out out':List V) (o l:List Attr),ys.length=bs.length→gU la x (bs.zip ys) out=some out'→iC la o bs=some l→out.length=o.length→out'.length=l.length
 | [],[],out,out',o,l,_,h,hj,e=>by simp [gU] at h; simp [iC] at hj; subst h; subst hj; exact e
 | b::bs,y::ys,out,out',o,l,hy,h,hj,e=>by
  simp only [List.zip_cons_cons,gU] at h
  simp only [iC] at hj
  have hfind:(nN la b.name=none↔gy la b.name<0):=by
   unfold nN gy jE
   have:(fun a:Attr=>decide (a.name=b.name))=fun t=>eqS t.name b.name:=by
    funext a
    by_cases h:a.name=b.name
    ·simp [h,(nY b.name b.name).2 rfl]
    ·have:eqS a.name b.name=false:=by
      cases h2:eqS a.name b.name with
      | false=>rfl
      | true=>exact (h ((nY _ _).1 h2)).elim
     simp [h,this]
   rw [this]
   cases la.findIdx? (fun t=>eqS t.name b.name) with
   | none=>simp
   | some i=>simp <;> omega
  cases hf:nN la b.name with
  | none=>
   rw [hf] at h
   rw [ab8 (hfind.1 hf)] at hj
   exact AV hx bs ys _ out' _ l (by simpa using hy) h hj (by simp [e])
  | some k=>
   rw [hf] at h
   have hc:¬ gy la b.name<0:=fun hc=>by rw [hfind.2 hc] at hf; cases hf
   rw [abQ hc] at hj
   split at hj
   ·cases hj
   ·simp only at h
    split at h
    ·exact AV hx bs ys _ out' _ l (by simpa using hy) h hj e
    ·cases h
theorem AX {la:List Attr} {x:List V}:∀ (l:List (Attr × V)) (out out':List V),gU la x l out=some out'→dI out→(∀ p∈l,dF p.2=true)→dI out'
 | [],out,out',h,ho,_=>by simp [gU] at h; subst h; exact ho
 | (a,v)::l,out,out',h,ho,hl=>by
  have hl2:=fun p hp=>hl p (adW _ hp)
  simp only [gU] at h
  split at h
  ·split at h
   ·exact AX l out out' h ho hl2
   ·cases h
  ·refine AX l _ out' h (fun u hu=>?_) hl2
   rcases aj8.1 hu with hu | hu
   ·exact ho u hu
   ·rw [adJ.1 hu]; exact hl (a,v) (adX ..)
theorem MK {α:Type} (c:α→α→Int) (x:α):∀ l:List α,(pY c x l).length≤l.length+1
 | []=>by simp [pY]
 | y::l=>by
  have:=MK c x l
  simp only [pY]
  repeat' split
  all_goals simp <;> omega
theorem JR {α:Type} (c:α→α→Int):∀ l:List α,(kV c l).length≤l.length
 | []=>by simp [kV]
 | x::l=>by
  have h1:=JR c l
  have h2:=MK c x (kV c l)
  simp only [kV,List.foldr_cons,agX] at *; omega
theorem QT (l:List W):(aT l).length≤l.length:=
 aj2 (JR _ _) (aj2 (anw _ _) (EW l))
theorem Yg {n:Nat} {la lb l:List Attr} {m1 m2:AM} (h1:ig n la.length m1) (h2:ig n lb.length m2) (hj:iC la la lb=some l):Adds n l.length (m1.flatMap fun q=>m2.flatMap (iM la lb q)):=by
 have hm:∀ x∈m1.flatMap fun q=>m2.flatMap (iM la lb q),∃ q1∈m1,∃ q2∈m2,∃ row,uX la lb q1.2.row q2.2.row=some row∧x=(row,aT (dD q1.2.ways q2.2.ways)):=by
  intro x hx
  obtain ⟨q1,hq1,hx⟩:=amb.1 hx
  obtain ⟨q2,hq2,hx⟩:=amb.1 hx
  unfold iM at hx
  split at hx
  ·rename_i row hr; exact ⟨q1,hq1,q2,hq2,row,hr,adJ.1 hx⟩
  ·simp at hx
 refine ⟨fun x hx=>?_,fun x hx=>?_,fun x hx=>?_,fun x hx=>?_,?_⟩
 ·obtain ⟨q1,hq1,q2,hq2,row,hr,rfl⟩:=hm x hx
  refine AX _ _ _ hr (h1.valid q1 hq1) fun p hp=>?_
  exact h2.valid q2 hq2 p.2 (List.of_mem_zip hp).2
 ·obtain ⟨q1,hq1,q2,hq2,row,hr,rfl⟩:=hm x hx
  exact AV (h1.width q1 hq1) lb q2.2.row _ _ _ _ (h2.width q2 hq2) hr hj (h1.width q1 hq1)
 ·obtain ⟨q1,hq1,q2,hq2,row,hr,rfl⟩:=hm x hx
  exact KY (PY (h1.xG q1 hq1) (h2.xG q2 hq2))
 ·obtain ⟨q1,hq1,q2,hq2,row,hr,rfl⟩:=hm x hx
  exact fun w hw=>rO hw
 ·have hin:∀ q1∈m1,sumW (m2.flatMap (iM la lb q1))≤160000000:=by
   intro q1 hq1
   have:=pI 160000 (iM la lb q1) m2 fun q2 hq2=>by
    unfold iM
    split
    ·rw [sG]
     refine aj2 (QT _) ?_
     rw [qF]
     exact aj2 (apn (h1.few q1 hq1) (h2.few q2 hq2)) (by decide)
    ·simp [sumW]
   have:=h2.len; omega
  have:=pI 160000000 (fun q1=>m2.flatMap (iM la lb q1)) m1 hin
  have:=h1.len; omega
theorem wF {tl:List bJ} {facts:List cZ} (hf:jZ tl facts) {n:Nat} {p:Plan} (hs:Shape tl n p) {ms:List AM} (hl:ms.length=p.kids.length) (hc:∀ i (h:i<p.kids.length) (h2:i<ms.length),ig facts.length p.kids[i].attrs.length ms[i]) {L:bD} (h:bZ p facts ms=some L):
  Adds facts.length p.attrs.length L:=by
 unfold bZ at h
 cases hs with
 | table hk hks h0 h1 hl'=>
  rw [ab8 hk] at h; cases h
  rw [hl']; exact UQ hf h0 h1
 | sel hk q hks hq hsv hl'=>
  rw [abQ (by omega),hks] at h
  rw [hks] at hl
  obtain ⟨m,rfl⟩:=ajV.1 hl
  have c:=hc 0 (by rw [hks]; simp) (by simp)
  simp only [hks,akv] at c
  simp only at h
  rw [ab8 hk] at h; cases h
  rw [hl']; exact aaO p c
 | proj hk q hks hq hcc hl'=>
  rw [abQ (by omega),hks] at h
  rw [hks] at hl
  obtain ⟨m,rfl⟩:=ajV.1 hl
  have c:=hc 0 (by rw [hks]; simp) (by simp)
  simp only [hks,akv] at c
  simp only at h
  rw [abQ (by omega),ab8 hk] at h; cases h
  rw [hl']; exact Ye p c hcc
 | ren hk q hks hq hl'=>
  rw [abQ (by omega),hks] at h
  rw [hks] at hl
  obtain ⟨m,rfl⟩:=ajV.1 hl
  have c:=hc 0 (by rw [hks]; simp) (by simp)
  simp only [hks,akv] at c
  simp only at h
  rw [abQ (by omega),abQ (by omega)] at h; cases h
  rw [hl']; exact IB c
 | join hk q r hks hq hr hn hj=>
  rw [abQ (by omega),hks] at h
  rw [hks] at hl
  obtain ⟨m1,m2,rfl⟩:=jW hl
  have c1:=hc 0 (by rw [hks]; simp) (by simp)
  have c2:=hc 1 (by rw [hks]; simp) (by simp)
  simp only [hks,akv,amx] at c1 c2
  simp only at h
  rw [ab8 hk] at h; cases h
  obtain ⟨l,hj1,hj2⟩:=hj
  rw [hj2]; exact Yg c1 c2 hj1
 | union hk q r hks hq hr hl1 hl2=>
  rw [abQ (by omega),hks] at h
  rw [hks] at hl
  obtain ⟨m1,m2,rfl⟩:=jW hl
  have c1:=hc 0 (by rw [hks]; simp) (by simp)
  have c2:=hc 1 (by rw [hks]; simp) (by simp)
  simp only [hks,akv,amx] at c1 c2
  simp only at h
  rw [abQ (by omega),ab8 hk] at h; cases h
  rw [← hl1] at c1; rw [← hl2] at c2
  exact UR c1 c2
 | minus hk q r hks hq hr hl1 hl2=>
  rw [abQ (by omega),hks] at h
  rw [hks] at hl
  obtain ⟨m1,m2,rfl⟩:=jW hl
  have c1:=hc 0 (by rw [hks]; simp) (by simp)
  have c2:=hc 1 (by rw [hks]; simp) (by simp)
  simp only [hks,akv,amx] at c1 c2
  simp only at h
  rw [abQ (by omega),abQ (by omega)] at h
  split at h
  ·cases h
   rw [hl1]; exact JQ c1 c2
  ·cases h
theorem zF {p:Plan} (h:grp p=false):p.kind≠8∧∀ q∈p.kids,grp q=false:=by
 rw [O4] at h
 simp only [Bool.or_eq_false_iff,amw,anM] at h
 exact ⟨h.1,fun q hq=>by simpa using h.2 q hq⟩
theorem Shape.kids {tl:List bJ} {n:Nat} {p:Plan} (h:Shape tl n p):∀ q∈p.kids,aX n tl q=true:=by
 cases h with
 | table _ hks=>rw [hks]; simp
 | sel _ q hks hq=>rw [hks]; simpa using hq
 | proj _ q hks hq=>rw [hks]; simpa using hq
 | ren _ q hks hq=>rw [hks]; simpa using hq
 | join _ q r hks hq hr=>rw [hks]; simp [hq,hr]
 | union _ q r hks hq hr=>rw [hks]; simp [hq,hr]
 | minus _ q r hks hq hr=>rw [hks]; simp [hq,hr]
theorem tZ {tl:List bJ} {facts:List cZ} (hf:jZ tl facts):∀ (n:Nat) (p:Plan) (m:AM),aX n tl p=true→grp p=false→Ae facts n p m→ig facts.length p.attrs.length m
 | 0,_,_,_,_,h=>h.elim
 | n+1,p,m,hv,hg,⟨ms,hl,hk,L0,L,h0,hp,hc,hm⟩=>by
  obtain ⟨h8,hgk⟩:=zF hg
  have hs:=rP hv h8
  have hkc:∀ i (h:i<p.kids.length) (h2:i<ms.length),ig facts.length p.kids[i].attrs.length ms[i]:=fun i h h2=>
   tZ hf n _ _ (hs.kids _ (ab5 h)) (hgk _ (ab5 h)) (hk i h h2)
  have:=(wF hf hs hl hkc h0).perm hp.symm
  rw [hm]; exact this.clo hc
theorem Yh {n c:Nat} {m:AM} (h:ig n c m):bg (gq m)=m:=by
 have:∀ (l:AM),(l.map (·.1)).Nodup→(∀ q∈l,q.1=rowB q.2.row)→bg (gq l)=l:=by
  intro l
  induction hl:l.length generalizing l with
  | zero=>intro _ _; rw [aks.1 hl]; rfl
  | succ k ih=>
   intro hn hq
   rcases List.eq_nil_or_concat l with rfl | ⟨l',q,rfl⟩
   ·simp at hl
   ·simp only [List.concat_eq_append] at hl hn hq ⊢
    simp only [acC,acn,adR] at hn
    have hn':=amJ.1 hn
    have e:gq (l' ++ [q])=gq l' ++ [(q.2.row,q.2.ways)]:=by simp
    rw [e,zY,ih l' (by simpa using hl) hn'.1 (fun x hx=>hq x (apg _ hx))]
    have JF:=hq q (by simp)
    rw [Fh (fun x hx e2=>hn'.2.2 x.1 (acE.2 ⟨x,hx,rfl⟩) q.1 (by simp) (by rw [e2]; exact JF.symm))]
    rw [← JF]
 exact this m h.nodup h.name
end Go.Proofs.Z
end
section
namespace Go.Proofs.Z
def sH {α:Type} (c:α→α→Int):List α→List α→Int
 | [],[]=>0
 | [],_::_=>-1
 | _::_,[]=>1
 | x::l,y::m=>if c x y≠0 then c x y else sH c l m
theorem Yi {α:Type} {c:α→α→Int} (hc:Order c):Order (sH c) where
 eq:=by
  intro a
  induction a with
  | nil=>intro b; cases b <;> simp [sH]
  | cons x l ih=>
   intro b
   cases b with
   | nil=>simp [sH]
   | cons y m=>
    simp only [sH,agk]
    split
    ·rename_i h; constructor
     ·intro h'; exact (h h').elim
     ·rintro ⟨rfl,_⟩; exact (h ((hc.eq _ _).2 rfl)).elim
    ·rename_i h
     have h:c x y=0:=by simpa using h
     rw [ih]; have:=(hc.eq x y).1 h; simp [this]
 flip:=by
  intro a
  induction a with
  | nil=>intro b; cases b <;> simp [sH]
  | cons x l ih=>
   intro b
   cases b with
   | nil=>simp [sH]
   | cons y m=>
    simp only [sH]
    by_cases h:c x y=0
    ·have e:=(hc.eq x y).1 h; subst e
     simp [h,ih]
    ·have h':c y x≠0:=fun e=>h ((hc.eq _ _).2 ((hc.eq _ _).1 e).symm)
     rw [ab8 h,ab8 h']; exact hc.flip x y
 trans:=by
  intro a
  induction a with
  | nil=>intro b d; cases b <;> cases d <;> simp [sH]
  | cons x l ih=>
   intro b d
   cases b with
   | nil=>simp [sH]
   | cons y m=>
    cases d with
    | nil=>simp [sH]
    | cons z n=>
     simp only [sH]
     by_cases h1:c x y=0
     ·have e:=(hc.eq x y).1 h1; subst e
      by_cases h2:c x z=0
      ·simp only [h1,h2,ne_eq,ao7,aku]; exact ih m n
      ·simp only [h1,h2,ne_eq,ao7,aku,ao4,akl]; exact fun _ h=>h
     ·by_cases h2:c y z=0
      ·have e:=(hc.eq y z).1 h2; subst e
       simp only [h1,h2,ne_eq,ao7,aku,ao4,akl]; exact fun h _=>h
      ·simp only [h1,h2,ne_eq,ao4,akl]
       intro h3 h4
       have h5:=hc.trans x y z h3 h4
       rw [ab8 (by omega)]; exact h5
theorem aaP (a b:List V):dw a b=sH nI a b:=by
 induction a generalizing b with
 | nil=>cases b <;> rfl
 | cons x l ih=>cases b with
  | nil=>rfl
  | cons y m=>simp only [dw,sH,ih]
theorem zG (a:ByteArray):iH a a=false:=by simp [iH,List.lt_irrefl]
theorem GZ {a b d:ByteArray} (h1:iH a b=true) (h2:iH b d=true):iH a d=true:=by
 simp only [iH,ame] at *; exact List.lt_trans h1 h2
theorem QU {a b:ByteArray} (h1:iH a b=false) (h2:iH b a=false):a=b:=by
 simp only [iH,an2] at h1 h2
 have:=List.le_antisymm (List.not_lt.1 h2) (List.not_lt.1 h1)
 cases a; cases b
 simpa using Array.toList_inj.1 this
theorem DW:Order uO where
 eq a b:=by
  unfold uO
  by_cases h1:iH a b=true
  ·simp only [h1,akl]
   constructor
   ·intro h; omega
   ·rintro rfl; rw [zG] at h1; cases h1
  ·simp only [h1]
   by_cases h2:iH b a=true
   ·simp only [h2,akl]
    constructor
    ·intro h; simp at h
    ·rintro rfl; rw [zG] at h2; cases h2
   ·simp [h2]
    exact QU (by simpa using h1) (by simpa using h2)
 flip a b:=by
  unfold uO
  have:iH a b=true→iH b a=true→False:=fun h1 h2=>by have:=GZ h1 h2; rw [zG] at this; cases this
  cases h1:iH a b <;> cases h2:iH b a <;> simp_all
 trans a b d:=by
  unfold uO
  cases h1:iH a b <;> cases h2:iH b d <;> simp
  ·split <;> simp
  ·split <;> simp
  ·split <;> simp
  ·rw [GZ h1 h2]; simp
theorem UU:Order nI:=by
 have h2:Order (fun a b:Int × ByteArray=>if bI a.1 b.1=0 then uO a.2 b.2 else bI a.1 b.1):=by
  refine Dk (c:=fun a b:Int × ByteArray=>bI a.1 b.1) (d:=fun a b:Int × ByteArray=>uO a.2 b.2) (fun a=>(dn.eq _ _).2 rfl) (fun a b=>dn.flip _ _) (fun a b e=>dn.trans _ _ _) (fun a b e h=>?_) (fun a b h=>?_) (fun a b=>DW.flip _ _) (fun a b e=>DW.trans _ _ _)
  ·have:=(dn.eq _ _).1 h; simp [this]
  ·have h:=(dn.eq _ _).1 h
   rw [DW.eq]; cases a; cases b; simp at h ⊢; simp [h]
 have h3:Order (fun a b:V=>if bI a.kind b.kind=0 then (if bI a.n b.n=0 then uO a.text b.text else bI a.n b.n) else bI a.kind b.kind):=by
  refine Dk (c:=fun a b:V=>bI a.kind b.kind) (d:=fun a b:V=>if bI a.n b.n=0 then uO a.text b.text else bI a.n b.n) (fun a=>(dn.eq _ _).2 rfl) (fun a b=>dn.flip _ _) (fun a b e=>dn.trans _ _ _) (fun a b e h=>?_) (fun a b h=>?_) (fun a b=>h2.flip (a.n,a.text) (b.n,b.text)) (fun a b e=>h2.trans (a.n,a.text) (b.n,b.text) (e.n,e.text))
  ·have:=(dn.eq _ _).1 h; simp [this]
  ·have h:=(dn.eq _ _).1 h
   have:=h2.eq (a.n,a.text) (b.n,b.text)
   dsimp only at this
   rw [this]; cases a; cases b; simp at h ⊢; simp [h]
 have:nI=fun a b:V=>if bI a.kind b.kind=0 then (if bI a.n b.n=0 then uO a.text b.text else bI a.n b.n) else bI a.kind b.kind:=by
  funext a b; simp only [nI,ne_eq,ite_not]
 rw [this]; exact h3
theorem jc:Order dw:=by
 have:dw=sH nI:=by funext a b; exact aaP a b
 rw [this]; exact Yi UU
end Go.Proofs.Z
end
section
namespace Go.Proofs.Z
open Go Go.au Go.Proofs
theorem P6 {s:UInt8}:∀ {a b A B:List UInt8},s∉a→s∉b→a++s::A=b++s::B→a=b∧A=B
 | [],[],A,B,_,_,h=>⟨rfl,by simpa using h⟩
 | [],y::b,A,B,_,hb,h=>by simp only [akd,akj,agk] at h; exact (hb (by rw [h.1]; exact adX ..)).elim
 | x::a,[],A,B,ha,_,h=>by simp only [akd,akj,agk] at h; exact (ha (by rw [h.1]; exact adX ..)).elim
 | x::a,y::b,A,B,ha,hb,h=>by
  simp only [akj,agk] at h
  obtain ⟨e1,e2⟩:=P6 (fun m=>ha (adW _ m)) (fun m=>hb (adW _ m)) h.2
  exact ⟨by rw [h.1,e1],e2⟩
def dval (l:List UInt8):Nat:=l.foldl (fun a c=>a * 10+(c.toNat - 48)) 0
theorem Af {u:Nat} (h:u<10):(UInt8.ofNat (48+u)).toNat=48+u:=by
 rw [UInt8.toNat_ofNat']; omega
theorem DX (u:Nat):dval (aoe u)=u:=by
 induction u using Nat.strongRecOn with
 | _ u ih=>
  by_cases h:u<10
  ·rw [aoe,an5 h]
   simp only [dval,aor,atu,Af h]; omega
  ·rw [aoe,apO h]
   have:=ih (u / 10) (by omega)
   unfold dval at this ⊢
   rw [apM,this]
   simp only [aor,atu,Af (Nat.mod_lt u (by decide:0<10))]; omega
theorem KZ (u:Nat):∀ c∈aoe u,48≤c.toNat∧c.toNat≤57:=by
 induction u using Nat.strongRecOn with
 | _ u ih=>
  intro c hc
  by_cases h:u<10
  ·rw [aoe,an5 h] at hc
   rw [adJ.1 hc,Af h]; omega
  ·rw [aoe,apO h] at hc
   rcases aj8.1 hc with hc | hc
   ·exact ih (u / 10) (by omega) c hc
   ·have:=Nat.mod_lt u (by decide:0<10)
    rw [adJ.1 hc,Af this]; omega
theorem agj (u:Nat):aoe u≠[]:=by
 by_cases h:u<10
 ·rw [aoe,an5 h]; simp
 ·rw [aoe,apO h]; simp
theorem P7 {n:Int} {c:UInt8} (hc:c∈ani n):c.toNat=45∨(48≤c.toNat∧c.toNat≤57):=by
 unfold ani at hc
 split at hc
 ·rcases aj6.1 hc with rfl | hc
  ·exact .inl rfl
  ·exact .inr (KZ _ c hc)
 ·exact .inr (KZ _ c hc)
theorem Yj (n:Int):∃ c l,ani n=c::l∧(c.toNat=45∨(48≤c.toNat∧c.toNat≤57)):=by
 cases h:ani n with
 | nil=>
  unfold ani at h
  split at h
  ·cases h
  ·exact (agj _ h).elim
 | cons c l=>exact ⟨c,l,rfl,P7 (n:=n) (by rw [h]; exact adX ..)⟩
theorem P8 {n m:Int} (h:ani n=ani m):n=m:=by
 have hd:∀ u l,aoe u=45::l→False:=fun u l e=>by
  have:=KZ u 45 (by rw [e]; exact adX ..)
  have h45:(45:UInt8).toNat=45:=rfl
  omega
 unfold ani at h
 split at h
 ·split at h
  ·have:=congrArg dval (List.cons.inj h).2
   rw [DX,DX] at this; omega
  ·exact (hd _ _ h.symm).elim
 ·split at h
  ·exact (hd _ _ h).elim
  ·have:=congrArg dval h
   rw [DX,DX] at this; omega
theorem Ag (n:Int):(32:UInt8)∉ani n:=fun h=>by
 have:=P7 h
 have h32:(32:UInt8).toNat=32:=rfl
 omega
theorem Yk {c d:UInt8} {X Y:List UInt8} (h:iZ c++X=iZ d++Y):c=d∧X=Y:=by
 unfold iZ at h
 repeat' split at h
 all_goals (simp only [akj,akd,agk] at h)
 all_goals first
  | (obtain ⟨h1,h2⟩:=h; exact ⟨h1,h2⟩)
  | (obtain ⟨_,h1,h2⟩:=h; first | exact ⟨by simp_all,h2⟩ | (exact absurd h1 (by decide)))
  | simp_all
theorem JU (c:UInt8):∃ d l,iZ c=d::l∧d≠34:=by
 unfold iZ
 repeat' split
 ·exact ⟨92,_,rfl,by decide⟩
 ·exact ⟨92,_,rfl,by decide⟩
 ·exact ⟨92,_,rfl,by decide⟩
 ·exact ⟨c,_,rfl,by assumption⟩
theorem yB (c:UInt8) (l:List UInt8):bf (c::l)=iZ c++bf l:=rfl
theorem ML:∀ {a b A B:List UInt8},bf a++34::A=bf b++34::B→a=b∧A=B
 | [],[],A,B,h=>⟨rfl,by simpa [bf] using h⟩
 | [],y::b,A,B,h=>by
  obtain ⟨d,l,e,hd⟩:=JU y
  rw [yB,e] at h
  simp only [bf,apt,akd,akj,akr,agk] at h
  exact (hd h.1.symm).elim
 | x::a,[],A,B,h=>by
  obtain ⟨d,l,e,hd⟩:=JU x
  rw [yB,e] at h
  simp only [bf,apt,akd,akj,akr,agk] at h
  exact (hd h.1).elim
 | x::a,y::b,A,B,h=>by
  rw [yB,yB,akr,akr] at h
  obtain ⟨e1,e2⟩:=Yk h
  obtain ⟨e3,e4⟩:=ML e2
  exact ⟨by rw [e1,e3],e4⟩
theorem UW {s:ByteArray} (h:s.size=0):s=akf:=by
 obtain ⟨⟨l⟩⟩:=s
 have:l=[]:=aks.1 h
 subst this; rfl
inductive yC:V→List UInt8→Prop
 | null:yC ⟨0,0,akf⟩ [110,117,108,108]
 | text (t:ByteArray):yC ⟨1,0,t⟩ (34::(bf (bytes t)++[34]))
 | num (n:Int):yC ⟨2,n,akf⟩ (ani n)
 | date (n:Int):yC ⟨3,n,akf⟩ (64::ani n)
 | no:yC ⟨4,0,akf⟩ [102,97,108,115,101]
 | yes:yC ⟨4,1,akf⟩ [116,114,117,101]
theorem aaQ:apm true=[116,114,117,101]:=by decide +kernel
theorem Yl:apm false=[102,97,108,115,101]:=by decide +kernel
theorem acj {v:V} (h:dF v=true):yC v (bytes (eX v)):=by
 unfold eX
 rw [h]
 simp only [ao3,akC,aku]
 obtain ⟨k,n,t⟩:=v
 unfold dF zo at h
 simp only at h ⊢
 by_cases h1:k=1
 ·subst h1
  simp at h
  have:n=0:=by omega
  subst this
  simp only [akl,qC,bytes]
  exact .text t
 rw [abQ h1]
 by_cases ht:t.size=0
 ·obtain rfl:=UW ht
  rw [abQ (by simp [ht])] at h
  by_cases h2:k=2
  ·subst h2; simp only [akl,bytes]; exact .num n
  by_cases h3:k=3
  ·subst h3; simp only [bytes]; exact .date n
  by_cases h4:k=4
  ·subst h4
   simp at h
   have:n=0∨n=1:=by omega
   rcases this with rfl | rfl
   ·simp only [bytes]
    have e:((0:Int) == 1)=false:=rfl
    rw [e,Yl]; exact .no
   ·simp only [bytes]
    have e:((1:Int) == 1)=true:=rfl
    rw [e,aaQ]; exact .yes
  ·rw [abQ h2,abQ h3,abQ h4]
   by_cases h0:k=0
   ·subst h0
    simp at h
    have:n=0:=by omega
    subst this
    exact .null
   ·simp [h0,h1,h2,h3,h4] at h
 ·rw [ab8 ⟨h1,ht⟩] at h; cases h
theorem aaR {u v:V} {a b A B:List UInt8} (hu:yC u a) (hv:yC v b) (h:a++32::A=b++32::B):u=v∧A=B:=by
 have hi:∀ {n:Int} {A:List UInt8} {d:UInt8} {l:List UInt8},d.toNat≠45→¬ (48≤d.toNat∧d.toNat≤57)→ani n++A=d::l→False:=by
  intro n A d l h1 h2 h3
  obtain ⟨c,m,e,hc⟩:=Yj n
  rw [e] at h3
  simp only [akj,agk] at h3
  rw [h3.1] at hc; omega
 cases hu <;> cases hv
 all_goals try simp only [akj,akd,akr,agk] at h
 all_goals first
  | exact (hi (by decide) (by decide) h).elim
  | exact (hi (by decide) (by decide) h.symm).elim
  | (exact absurd h.1 (by decide))
  | skip
 ·exact ⟨rfl,by simpa using h⟩
 ·obtain ⟨e1,e2⟩:=ML h.2
  refine ⟨?_,by simpa using e2⟩
  rw [bytes_inj e1]
 ·obtain ⟨e1,e2⟩:=P6 (Ag _) (Ag _) h
  exact ⟨by rw [P8 e1],e2⟩
 ·obtain ⟨e1,e2⟩:=P6 (Ag _) (Ag _) h.2
  exact ⟨by rw [P8 e1],e2⟩
 ·exact ⟨rfl,by simpa using h⟩
 ·exact ⟨rfl,by simpa using h⟩
theorem P9:∀ {a b:List V},dI a→dI b→iP a=iP b→a=b
 | [],[],_,_,_=>rfl
 | [],v::b,_,_,h=>by simp [iP] at h
 | v::a,[],_,_,h=>by simp [iP] at h
 | v::a,u::b,ha,hb,h=>by
  have e:∀ (v:V) (l:List V),iP (v::l)=bytes (eX v)++32::iP l:=fun v l=>by simp [iP]
  rw [e,e] at h
  obtain ⟨e1,e2⟩:=aaR (acj (ha v (adX ..))) (acj (hb u (adX ..))) h
  rw [e1,P9 (fun x hx=>ha x (adW _ hx)) (fun x hx=>hb x (adW _ hx)) e2]
theorem DY {a b:List V} (ha:dI a) (hb:dI b) (h:rowB a=rowB b):a=b:=by
 refine P9 ha hb ?_
 have:=congrArg bytes h
 simpa [rowB,bytes] using this
theorem Adds.inj {n c:Nat} {L:bD} (h:Adds n c L):tX L:=fun x hx y hy e=>DY (h.valid x hx) (h.valid y hy) e
def jG {α:Type}:List (Option α)→Option (List α)
 | []=>some []
 | none::_=>none
 | some x::l=>match jG l with
  | some r=>some (x::r)
  | none=>none
theorem nC {α:Type}:∀ {l:List (Option α)} {r:List α},jG l=some r↔l=r.map some
 | [],r=>by
  cases r with
  | nil=>simp [jG]
  | cons y r=>simp [jG]
 | none::l,r=>by
  simp only [jG]
  constructor
  ·intro h; cases h
  ·intro h; cases r <;> simp at h
 | some x::l,r=>by
  simp only [jG]
  cases h:jG l with
  | none=>
   constructor
   ·intro h; cases h
   ·intro h2
    cases r with
    | nil=>simp at h2
    | cons y r=>
     simp only [acn,agk] at h2
     rw [nC.2 h2.2] at h; cases h
  | some q=>
   have hq:=nC.1 h
   simp only [adQ]
   constructor
   ·rintro rfl; rw [hq]; rfl
   ·intro h2
    cases r with
    | nil=>simp at h2
    | cons y r=>
     simp only [acn,agk,adQ] at h2
     have:=nC.2 h2.2
     rw [h] at this; cases this
     rw [h2.1]
theorem MN {α:Type}:∀ {l:List (Option α)},jG l=none↔none∈l
 | []=>by simp [jG]
 | none::l=>by simp [jG]
 | some x::l=>by
  simp only [jG,aj6,reduceCtorEq,false_or]
  rw [← MN]
  cases jG l <;> simp
instance (m:AM):Decidable (iL m):=inferInstanceAs (Decidable (_∧_))
def kZ (facts:List cZ):Nat→Plan→Option AM
 | 0,_=>none
 | n+1,p=>match jG (p.kids.map (kZ facts n)) with
  | none=>none
  | some ms=>match bZ p facts ms with
   | none=>none
   | some L=>if iL (bg L) then some (dB (bg L)) else none
theorem ig.perm {n c:Nat} {m m':AM} (p:m.Perm m') (h:ig n c m):ig n c m' where
 nodup:=((p.map _).nodup_iff).1 h.nodup
 len:=by rw [← p.length_eq]; exact h.len
 name:=fun q hq=>h.name q (p.mem_iff.2 hq)
 valid:=fun q hq=>h.valid q (p.mem_iff.2 hq)
 width:=fun q hq=>h.width q (p.mem_iff.2 hq)
 few:=fun q hq=>h.few q (p.mem_iff.2 hq)
 some:=fun q hq=>h.some q (p.mem_iff.2 hq)
 xG:=fun q hq=>h.xG q (p.mem_iff.2 hq)
 min:=fun q hq=>h.min q (p.mem_iff.2 hq)
theorem FD {α β:Type} {f g:α→List β}:∀ (l:List α),(∀ a∈l,(f a).Perm (g a))→(l.flatMap f).Perm (l.flatMap g)
 | [],_=>.refl _
 | x::l,h=>by
  simp only [akg]
  exact (h x (adX ..)).append (FD l fun a ha=>h a (adW _ ha))
theorem zH {α β:Type} {f g:α→List β} {l m:List α} (h:l.Perm m) (hf:∀ a∈l,(f a).Perm (g a)):(l.flatMap f).Perm (m.flatMap g):=
 (FD l hf).trans (akx g h)
theorem QV {m m':AM} (p:m.Perm m') (hn:(m.map (·.1)).Nodup) (n:ByteArray):nV n m=nV n m':=by
 have hn':(m'.map (·.1)).Nodup:=((p.map _).nodup_iff).1 hn
 by_cases h:∃ q∈m,q.1=n
 ·obtain ⟨q,hq,rfl⟩:=h
  rw [yw hn hq,yw hn' (p.mem_iff.1 hq)]
 ·rw [rM (fun q hq e=>h ⟨q,hq,e⟩),rM (fun q hq e=>h ⟨q,p.mem_iff.2 hq,e⟩)]
theorem AY {m m':AM} (p:m.Perm m') (hn:(m.map (·.1)).Nodup) (q:ByteArray × Ans):iO m q=iO m' q:=by
 unfold iO; rw [QV p hn]
def ajb:Option bD→Option bD→Prop
 | some L,some M=>L.Perm M
 | none,none=>True
 | _,_=>False
theorem FH {tl:List bJ} {facts:List cZ} {n:Nat} {p:Plan} (hs:Shape tl n p) {ms ms':List AM} (hl:ms.length=p.kids.length) (hl':ms'.length=p.kids.length)
  (hp:∀ i (h:i<ms.length) (h2:i<ms'.length),(ms[i].Perm ms'[i])∧(ms[i].map (·.1)).Nodup):ajb (bZ p facts ms) (bZ p facts ms'):=by
 have one:∀ q,p.kids=[q]→∃ m m',ms=[m]∧ms'=[m']∧m.Perm m':=by
  intro q hk
  rw [hk] at hl hl'
  obtain ⟨m,rfl⟩:=ajV.1 hl
  obtain ⟨m',rfl⟩:=ajV.1 hl'
  exact ⟨m,m',rfl,rfl,(hp 0 (by simp) (by simp)).1⟩
 have two:∀ q r,p.kids=[q,r]→∃ m1 m2 MO MP,ms=[m1,m2]∧ms'=[MO,MP]∧m1.Perm MO∧m2.Perm MP∧(m2.map (·.1)).Nodup:=by
  intro q r hk
  rw [hk] at hl hl'
  obtain ⟨m1,m2,rfl⟩:=jW hl
  obtain ⟨MO,MP,rfl⟩:=jW hl'
  exact ⟨m1,m2,MO,MP,rfl,rfl,(hp 0 (by simp) (by simp)).1,(hp 1 (by simp) (by simp)).1,(hp 1 (by simp) (by simp)).2⟩
 unfold bZ
 cases hs with
 | table hk hks h0 h1 hl'=>rw [ab8 hk,ab8 hk]; exact .refl _
 | sel hk q hks hq hsv hl'=>
  obtain ⟨m,m',rfl,rfl,h⟩:=one q hks
  simp only [hk,hks,reduceIte,akD]
  exact akx _ h
 | proj hk q hks hq hcc hl'=>
  obtain ⟨m,m',rfl,rfl,h⟩:=one q hks
  simp only [hk,hks,reduceIte,akD]
  exact akx _ h
 | ren hk q hks hq hl'=>
  obtain ⟨m,m',rfl,rfl,h⟩:=one q hks
  simp only [hk,hks,reduceIte,akD]
  exact akx _ h
 | join hk q r hks hq hr hn hj=>
  obtain ⟨m1,m2,MO,MP,rfl,rfl,h1,h2,_⟩:=two q r hks
  simp only [hk,hks,reduceIte,akD]
  exact zH h1 fun a _=>akx _ h2
 | union hk q r hks hq hr hl1 hl2=>
  obtain ⟨m1,m2,MO,MP,rfl,rfl,h1,h2,_⟩:=two q r hks
  simp only [hk,hks,reduceIte,akD]
  exact (akx _ h1).append (akx _ h2)
 | minus hk q r hks hq hr hl1 hl2=>
  obtain ⟨m1,m2,MO,MP,rfl,rfl,h1,h2,hn⟩:=two q r hks
  simp only [hk,hks,reduceIte,akD]
  have hall:(m1.all fun q=>(iO m2 q).isSome)=MO.all fun q=>(iO MP q).isSome:=by
   rw [anA,agi,agi]
   constructor
   ·intro h x hx; rw [← AY h2 hn]; exact h x (h1.mem_iff.2 hx)
   ·intro h x hx; rw [AY h2 hn]; exact h x (h1.mem_iff.1 hx)
  rw [hall]
  split
  ·refine zH h1 fun a _=>?_
   unfold jU; rw [AY h2 hn]
  ·trivial
theorem JV {tl:List bJ} {facts:List cZ} (hf:jZ tl facts):∀ (n:Nat) (p:Plan),aX n tl p=true→grp p=false →
  (∀ m,Ae facts n p m→∃ m0,kZ facts n p=some m0∧m.Perm m0)∧(MG facts n p→kZ facts n p=none)
 | 0,p,hv,_=>by simp [aX] at hv
 | n+1,p,hv,hg=>by
  obtain ⟨h8,hgk⟩:=zF hg
  have hs:=rP hv h8
  have ih:=fun q (hq:q∈p.kids)=>JV hf n q (hs.kids q hq) (hgk q hq)
  have kids:∀ ms:List AM,ms.length=p.kids.length→(∀ i (h:i<p.kids.length) (h2:i<ms.length),Ae facts n p.kids[i] ms[i])→∃ ms0,jG (p.kids.map (kZ facts n))=some ms0∧ms0.length=p.kids.length ∧
    (∀ i (h:i<ms.length) (h2:i<ms0.length),(ms[i].Perm ms0[i])∧(ms[i].map (·.1)).Nodup)∧(∀ i (h:i<p.kids.length) (h2:i<ms.length),ig facts.length p.kids[i].attrs.length ms[i])∧∀ i (h:i<p.kids.length) (h2:i<ms0.length),ig facts.length p.kids[i].attrs.length ms0[i]:=by
   intro ms hl hk
   have hc:∀ i (h:i<p.kids.length) (h2:i<ms.length),ig facts.length p.kids[i].attrs.length ms[i]:=fun i h h2=>tZ hf n _ _ (hs.kids _ (ab5 h)) (hgk _ (ab5 h)) (hk i h h2)
   have hex:∀ i (h:i<p.kids.length),∃ m0,kZ facts n p.kids[i]=some m0∧(ms[i]'(by omega)).Perm m0:=fun i h=>(ih _ (ab5 h)).1 _ (hk i h (by omega))
   refine ⟨(p.kids.map fun q=>(kZ facts n q).getD []),?_,by simp,fun i h h2=>?_,hc,fun i h h2=>?_⟩
   ·rw [nC,amk]
    refine akh fun q hq=>?_
    obtain ⟨i,hi,rfl⟩:=agY hq
    obtain ⟨m0,e,_⟩:=hex i hi
    simp [e]
   ·obtain ⟨m0,e,hp⟩:=hex i (by omega)
    simp only [anW,e,Option.getD_some]
    exact ⟨hp,(hc i (by omega) h).nodup⟩
   ·obtain ⟨m0,e,hp⟩:=hex i h
    simp only [anW,e,Option.getD_some]
    exact (hc i h (by omega)).perm hp
  refine ⟨?_,?_⟩
  ·rintro m ⟨ms,hl,hk,L0,L,h0,hp,hc,rfl⟩
   obtain ⟨ms0,e0,hl0,hpm,hcl,hcl0⟩:=kids ms hl hk
   have hpo:=FH (facts:=facts) hs hl hl0 hpm
   rw [h0] at hpo
   cases h1:bZ p facts ms0 with
   | none=>rw [h1] at hpo; exact hpo.elim
   | some M=>
    rw [h1] at hpo
    have hpo:L0.Perm M:=hpo
    have hA:=(wF hf hs hl hcl h0).perm hp.symm
    have hLM:L.Perm M:=hp.trans hpo
    refine ⟨dB (bg M),?_,AU hLM hA.inj⟩
    simp only [kZ,e0,h1]
    rw [ab8 ((zD hLM hA.inj).1 hc)]
  ·rintro (⟨i,h,hx⟩ | ⟨ms,hl,hk,h⟩)
   ·have:jG (p.kids.map (kZ facts n))=none:=by
     rw [MN,acE]
     exact ⟨p.kids[i],ab5 h,(ih _ (ab5 h)).2 hx⟩
    simp only [kZ,this]
   ·obtain ⟨ms0,e0,hl0,hpm,hcl,hcl0⟩:=kids ms hl hk
    have hpo:=FH (facts:=facts) hs hl hl0 hpm
    rcases h with h0 | ⟨L0,L,h0,hp,hc⟩
    ·rw [h0] at hpo
     cases h1:bZ p facts ms0 with
     | none=>simp only [kZ,e0,h1]
     | some M=>rw [h1] at hpo; exact hpo.elim
    ·rw [h0] at hpo
     cases h1:bZ p facts ms0 with
     | none=>rw [h1] at hpo; exact hpo.elim
     | some M=>
      rw [h1] at hpo
      have hpo:L0.Perm M:=hpo
      have hA:=(wF hf hs hl hcl h0).perm hp.symm
      have hLM:L.Perm M:=hp.trans hpo
      simp only [kZ,e0,h1]
      rw [abQ (fun h=>hc ((zD hLM hA.inj).2 h))]
def FI (x:Ans):List Ans→List Ans
 | []=>[x]
 | y::l=>if dw x.row y.row<0 then x::y::l else y::FI x l
def sortA (l:List Ans):List Ans:=l.foldr FI []
theorem FK (x:Ans):∀ l,(FI x l).Perm (x::l)
 | []=>.refl _
 | y::l=>by
  simp only [FI]
  split
  ·exact .refl _
  ·exact ((FK x l).cons y).trans (.swap x y l)
theorem jH:∀ l,(sortA l).Perm l
 | []=>.refl _
 | x::l=>(FK x (sortA l)).trans ((jH l).cons x)
end Go.Proofs.Z
end
