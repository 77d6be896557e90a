/- A part of the proof. -/
import Derived.Test.YtjbhhddfaohdnaaGreatDoorPRv
set_option linter.all false
set_option linter.deprecated false
namespace Go.Proofs.Z
open Go Go.au Go.Proofs
set_option maxRecDepth 10000
set_option maxHeartbeats 4000000
theorem akj:aH Tryz.prog 42:=fun _ _=>by kernel_rfl
theorem Y1 (t:Int) (facts:List bQ):qh t facts facts.length=bJ (kM t facts):=by
 have:∀ (l:List (bQ × Nat)) (m:AM),l.foldl (IU t) m=(l.flatMap fun q=>if q.1.table=t then [(q.1.row,[(⟨[(q.2:Int)],[]⟩:W)])] else []).foldl (fun m x=>jy (rowB x.1) x.1 x.2 m) m:=by
  intro l
  induction l with
  | nil=>intro m; rfl
  | cons q l ih=>
   intro m
   rw [List.foldl_cons,an4,ap3,ih]
   congr 1
   unfold IU
   split <;> rfl
 unfold qh
 rw [acw (ael _)]
 exact this _ _
abbrev vZ (p:Plan):List SV:=[.pd (I p.kind),.pd (I p.table),.pd (plans p.kids),.pd (mJ p.tests),.pd (ints p.cols),.pd (I p.col),.pd (I p.agg),.pd (attrs p.attrs)]
abbrev gQ (p:Plan):PD:=.aj [I p.kind,I p.table,plans p.kids,mJ p.tests,ints p.cols,I p.col,I p.agg,attrs p.attrs]
theorem Q9 {p q:Plan} (h:Fa p q=true) {row:List V} (hl:row.length=q.attrs.length) (t:xq) (ht:t∈p.tests):kV row t.left∧kV row t.right:=by
 unfold Fa at h
 simp only [aeC,aok,anN] at h
 have h1:=h.2 t ht
 have h1:uK t q.attrs.length=true:=by simpa using h1
 unfold uK at h1
 simp only [aeC] at h1
 have hs:∀ s:Side,Gt s q.attrs.length=true→kV row s:=by
  intro s hs
  unfold Gt at hs
  split at hs
  ·exact .inl (by assumption)
  ·simp only [aeC,aon] at hs
   exact .inr ⟨hs.1.1.2,by omega⟩
 exact ⟨hs _ h1.1.1.2,hs _ h1.1.2⟩
def lI (q:Nat × AM):Nat × dR:=(q.1,.map (aI q.2))
def dU (facts:List bQ) (n:Nat) (p:Plan) (res:iK) (M':Maps):Prop:=(∃ r m,res = .ret [mref r]∧M'=[(r,aI m)]∧Aa facts n p m)∨(res = .wR X8∧M'=[]∧Nv facts n p)
theorem DU {n:Nat} {sl:List (Nat × SV)} {vs:List (Nat × List SV)} {rs:List (Nat × Row)} {mm:List (Nat × dR)} {gs:List (Nat × SV)} (h:(mm.map (·.1)).Nodup):BJ ⟨n,sl,vs,rs,mm,gs⟩ mm:=Q8 fun p hp=>I7 h p hp
theorem zk {n:Nat} {sl:List (Nat × SV)} {vs:List (Nat × List SV)} {rs:List (Nat × Row)} {mm:List (Nat × dR)} {gs:List (Nat × SV)} {r:Nat} {o:dR} (h:(mm.map (·.1)).Nodup) (hr:r∉mm.map (·.1)):BJ ⟨n,sl,vs,rs,(r,o)::mm,gs⟩ mm:=
 Q8 fun p hp=>by
  simp only [St.map,lk]
  rw [acg (fun e=>hr (acL.2 ⟨p,hp,e.symm⟩))]
  exact I7 h p hp
theorem Y2 (o:dR):o.wrote []=o:=by cases o <;> simp [dR.wrote]
theorem Y3 (M':Maps) (ms:List (Nat × dR)):after [] M' ms=(M'.map fun p=>(p.1,.map p.2))++ms:=by
 unfold after
 congr 1
 simp [Y2]
def nH (p q:Plan) (facts:List bQ) (k:Nat) (x:List (Nat × SV)) (r:List PD) (mm:List (Nat × dR)):St:=
 ⟨34,(14,.pd (I k))::(1,.pd (fM facts))::(2,.aG 2 0)::(4,.pd (.raw (.map none)))::(5,.aG 5 0)::(7,.aG 7 0)::(12,.pd (plans p.kids))::(13,.pd (I p.kids.length))::x,[(2,vZ p),(5,vZ p++[.pd (fM facts),.own 5005]),(7,vZ q)],[(5005,⟨95,1,r⟩)],mm,[]⟩
attribute [go_sem] nH
def T42 (p q:Plan) (facts:List bQ) (k:Nat) (X:List PD) (mm:List (Nat × dR)) (x:Nat × AM):Nat→St
 | 0=>nH p q facts k [] (X) (mm)
 | 1=>nH p q facts k [(18,.aG 5 9)] (X) (mm)
 | 3=>nH p q facts k [(18,.aG 5 9),(19,.own 5005)] (X) (mm)
 | 4=>nH p q facts k [(20,.pd (gQ q))] (X) (mm)
 | 5=>nH p q facts k [(18,.aG 5 9),(20,.pd (gQ q))] (X) (mm)
 | 7=>nH p q facts k [(18,.aG 5 9),(19,.own 5005),(20,.pd (gQ q))] (X) (mm)
 | 8=>nH p q facts k [(21,.pd (fM facts))] (X) (mm)
 | 9=>nH p q facts k [(18,.aG 5 9),(21,.pd (fM facts))] (X) (mm)
 | 11=>nH p q facts k [(18,.aG 5 9),(19,.own 5005),(21,.pd (fM facts))] (X) (mm)
 | 12=>nH p q facts k [(20,.pd (gQ q)),(21,.pd (fM facts))] (X) (mm)
 | 13=>nH p q facts k [(18,.aG 5 9),(20,.pd (gQ q)),(21,.pd (fM facts))] (X) (mm)
 | 15=>nH p q facts k [(18,.aG 5 9),(19,.own 5005),(20,.pd (gQ q)),(21,.pd (fM facts))] (X) (mm)
 | 28=>nH p q facts k [(20,.pd (gQ q)),(21,.pd (fM facts)),(22,.pd (mref x.1))] (X) ((x.1,.map (aI x.2))::mm)
 | 29=>nH p q facts k [(18,.aG 5 9),(20,.pd (gQ q)),(21,.pd (fM facts)),(22,.pd (mref x.1))] (X) ((x.1,.map (aI x.2))::mm)
 | 31=>nH p q facts k [(18,.aG 5 9),(19,.own 5005),(20,.pd (gQ q)),(21,.pd (fM facts)),(22,.pd (mref x.1))] (X) ((x.1,.map (aI x.2))::mm)
 | 60=>nH p q facts k [(20,.pd (gQ q)),(21,.pd (fM facts)),(22,.pd (mref x.1)),(23,.pd (.list 1 [mref x.1]))] (X) ((x.1,.map (aI x.2))::mm)
 | 61=>nH p q facts k [(18,.aG 5 9),(20,.pd (gQ q)),(21,.pd (fM facts)),(22,.pd (mref x.1)),(23,.pd (.list 1 [mref x.1]))] (X) ((x.1,.map (aI x.2))::mm)
 | 63=>nH p q facts k [(18,.aG 5 9),(19,.own 5005),(20,.pd (gQ q)),(21,.pd (fM facts)),(22,.pd (mref x.1)),(23,.pd (.list 1 [mref x.1]))] (X) ((x.1,.map (aI x.2))::mm)
 | 127=>⟨34,[(14,.pd (I k)),(1,.pd (fM facts)),(2,.aG 2 0),(4,.pd (.raw (.map none))),(5,.aG 5 0),(7,.aG 7 0),(12,.pd (plans p.kids)),(13,.pd (I p.kids.length)),(18,.aG 5 9),(20,.pd (gQ q)),(21,.pd (fM facts)),(22,.pd (mref x.1)),(23,.pd (.list 1 [mref x.1])),(24,.own 5005)],[(2,vZ p),(5,vZ p++[.pd (fM facts),.dead]),(7,vZ q)],[(5005,⟨95,1,X++[mref x.1]⟩)],(x.1,.map (aI x.2))::mm,[]⟩
 | 255=>⟨34,[(14,.pd (I k)),(1,.pd (fM facts)),(2,.aG 2 0),(4,.pd (.raw (.map none))),(5,.aG 5 0),(7,.aG 7 0),(12,.pd (plans p.kids)),(13,.pd (I p.kids.length)),(18,.aG 5 9),(20,.pd (gQ q)),(21,.pd (fM facts)),(22,.pd (mref x.1)),(23,.pd (.list 1 [mref x.1])),(24,.own 5005),(25,.aG 5 9)],[(2,vZ p),(5,vZ p++[.pd (fM facts),.dead]),(7,vZ q)],[(5005,⟨95,1,X++[mref x.1]⟩)],(x.1,.map (aI x.2))::mm,[]⟩
 | 511=>nH p q facts k [(18,.aG 5 9),(20,.pd (gQ q)),(21,.pd (fM facts)),(22,.pd (mref x.1)),(23,.pd (.list 1 [mref x.1])),(24,.own 5005),(25,.aG 5 9)] (X++[mref x.1]) ((x.1,.map (aI x.2))::mm)
 | _=>⟨0,[],[],[],[],[]⟩
def ahA:List (Nat × Nat):=[(0,0),(0,2),(0,3),(1,1),(1,2),(1,3),(4,0),(4,3),(8,0),(8,2),(3,2),(3,3),(5,1),(5,3),(9,1),(9,2),(12,0),(12,4),(7,3),(11,2),(13,1),(13,4),(28,0),(28,5),(15,4),(29,1),(29,5),(60,0),(31,5),(61,1),(63,6),(127,7),(255,8)]
theorem Ou {tl:List bU} {facts:List bQ} (hf:iI tl facts) (htl:∀ t∈tl,t.attrs.length≤200000000) (n:Nat) (p:Plan) (ho:nD p) (ahB:∀ q∈p.kids,q.attrs.length≤100000000) (hs:Shape tl n p) (ih:∀ q∈p.kids,dZ Tryz.prog 42 [.pd (plan q),.pd (fM facts)] [] [] (dU facts n q)) (V9:∀ q∈p.kids,∀ m,Aa facts n q m→iw facts.length q.attrs.length m):
  dZ Tryz.prog 42 [.pd (plan p),.pd (fM facts)] [] [] (dU facts (n+1) p):=by
 rw [aN p]
 refine dZ.mk Tryz.func42 rfl akj (by simp [Tryz.ntmps42]) fun w G=>?_
 refine aNF ?_
 refine R.Y0 5 9 5005 95 1 rfl rfl (by simp) rfl ?_
 simp only [go_sem]
 refine R.vk (fun (x:List (Nat × AM)) s=>{ St.lp [1,2,4,5,12,13,27,28,29,30,31,32,33] [(14,.pd (I x.length))] [2] [(5,vZ p++[.pd (fM facts),.own 5005])] [] [(5005,⟨95,1,x.map fun q=>mref q.1⟩)] s with maps:=x.reverse.map lI }) (fun (x:List (Nat × AM))=>x.length≤p.kids.length∧(x.map (·.1)).Nodup∧(∀ q∈x,w.heap.size≤q.1)∧∀ i (h:i<p.kids.length) (h2:i<x.length),Aa facts n p.kids[i] x[i].2) (fun (x:List (Nat × AM))=>p.kids.length - x.length) ([]) (⟨by simp,by simp,by simp,by simp⟩) (by (simp only [go_sem,List.reverse_nil]); all_goals (and_intros <;> first | rfl | simp)) ?_
 rintro x ⟨hk,hnd,hge,hev⟩
 apply aA; simp only [go_sem,ab1,SV.pd.injEq]
 refine ⟨fun h=>?_,fun h=>?_⟩
 ·have hlt:x.length<p.kids.length:=by simpa using h
  have hnm:((x.reverse.map lI).map (·.1)).Nodup:=by
   have:(x.reverse.map lI).map (·.1)=(x.map (·.1)).reverse:=by simp [lI,Function.comp_def]
   rw [this]; exact List.pairwise_reverse.2 (hnd.imp fun h=>an2 h)
  have hkl:=((jq p).1 ho).2.2.2.1
  apply aA; simp only [go_sem,ab1,SV.pd.injEq,getD_map,hlt,aN p.kids[x.length]]
  repeat refine ⟨by omega,?_⟩
  have ihq:=ih p.kids[x.length] (acn hlt)
  rw [aN] at ihq
  have ac0:Nv facts n p.kids[x.length]→Nv facts (n+1) p:=fun h=>.inl ⟨x.length,hlt,h⟩
  have hX:(x.map fun q=>mref q.1).length≤100000000:=by simp; omega
  generalize hq:p.kids[x.length]=q at ihq ac0
  generalize hXX:(x.map fun q=>mref q.1)=X at hX
  generalize hmm:x.reverse.map lI=mm at hnm
  refine R.to (T42 p q facts x.length X mm (0,[]) 0) (by simp only [T42.eq_1]; (simp only [go_sem]); all_goals first | (and_intros <;> first | rfl | exact DU hnm) | exact DU hnm) ?_
  refine R.akh (T42 p q facts x.length X mm) (fun y m=>m.testBit 4=true→y.1∉mm.map (·.1)∧w.heap.size≤y.1∧Aa facts n q y.2) ahA 511 mixed (by kernel_rfl) (by kernel_rfl) (by kernel_rfl) (0,[]) (fun h=>absurd h (by decide)) (fun h=>h) ?_ ?_
  ·unfold ahA
   repeat' (refine akT.2 ⟨?_,?_⟩)
   all_goals first
    | exact asM _
    | (intro y0 hx
       simp only [T42,Nat.reduceOr,Nat.reducePow,Nat.reduceShiftLeft]
       refine aNF ?_
       try refine R.dL (r:=⟨95,1,X⟩) (d:=mref y0.1) 1000000000 8 rfl rfl (by (simp only [go_sem])) rfl rfl rfl rfl aco rfl aff (by simp) (congrArg (Option.map List.length) afh) rfl afg (by simp; omega) (by decide) (by decide) ?_
       refine aNF ?_
       exact R.nO ⟨y0,(fun h=>by first | exact absurd h (by decide) | exact hx (by decide)),rfl⟩ (by (simp only [go_sem]); first | (done) | (refine ⟨?_,?_⟩ <;> first | rfl | exact DU hnm | exact zk hnm (hx (by decide)).1) | exact DU hnm | exact zk hnm (hx (by decide)).1))
    | (intro y0 hx
       simp only [T42,Nat.reduceOr,Nat.reducePow,Nat.reduceShiftLeft]
       refine aNF ?_
       refine R.dW (by rfl) 77 (by rfl) rfl rfl (ah (by (simp only [go_sem]))) (.cons (.pd _) (.cons (.pd _) .nil)) ihq (fun r' m' h=>by simp [lk] at h) (fun r' h=>by simp at h) ?_
       rintro res M' (⟨r,m,rfl,rfl,hev2⟩ | ⟨rfl,rfl,hx2⟩) hh
       ·rcases hh r (aI m) (by simp [lk]) with h | ⟨h1,h2⟩
        ·simp at h
        have hr:=Uw h2
        simp only [Behind,Y3,ab9,acH,List.cons_append,List.nil_append]
        refine aNF ?_
        exact R.nO ⟨(r,m),(fun _=>⟨hr,h1,hev2⟩),rfl⟩ (by (simp only [go_sem]); first | (done) | (refine ⟨?_,?_⟩ <;> first | rfl | exact zk hnm hr) | exact zk hnm hr)
       ·simp only [Behind]
        exact fun a w E g=>qB (.inr ⟨rfl,rfl,ac0 hx2⟩) g)
  ·intro y hy
   obtain ⟨hy1,hy2,hy3⟩:=hy (by decide)
   simp only [T42.eq_21]
   subst hXX; subst hmm; subst hq
   have akk:y.1∉x.map (·.1):=fun hin=>hy1 (by
    obtain ⟨q,hq,e⟩:=acL.1 hin
    exact acL.2 ⟨lI q,acL.2 ⟨q,by simpa using hq,rfl⟩,e⟩)
   apply ev8; simp only [go_sem,wrapN (k:=x.length) (by omega)]
   refine R.ku (x++[y]) ⟨by simp; omega,by rw [aeh]; exact anM.2 ⟨hnd,by simp,fun a ha b hb e=>by simp at hb; subst hb; subst e; exact akk ha⟩,fun q hq=>?_,fun i hi hi2=>?_⟩ (by show _<_; simp; omega) ?_
   ·rcases agS.1 hq with h | h
    ·exact hge q h
    ·rw [adh.1 h]; exact hy2
   ·by_cases e:i<x.length
    ·have:(x++[y])[i]=x[i]:=aqf e
     rw [this]; exact hev i hi e
    ·have e2:i=x.length:=by simp at hi2; omega
     subst e2
     simp only [ape (ael _),arJ,List.getElem_cons_zero]
     exact hy3
   ·simp only [go_sem,adb,aeh,List.reverse_append,List.reverse_cons,List.reverse_nil]
    exact ⟨by simp [lI],zk hnm hy1⟩
 ·have hlen:x.length=p.kids.length:=by
   have h':¬ x.length<p.kids.length:=(by simpa using h)
   omega
  have hat:p.attrs.length≤200000000:=by have:=((jq p).1 ho).1; omega
  have hfl:facts.length≤1000000:=by have:=hf.1; omega
  have hs0:=hs
  have Bf:(x.map (·.2)).length=p.kids.length:=by simpa using hlen
  have Wh:∀ i (h:i<p.kids.length) (h2:i<(x.map (·.2)).length),Aa facts n p.kids[i] (x.map (·.2))[i]:=fun i h h2=>by
   simp only [anC]; exact hev i h (by simpa using h2)
  have Bg:∀ i (h:i<p.kids.length) (h2:i<(x.map (·.2)).length),iw facts.length p.kids[i].attrs.length (x.map (·.2))[i]:=fun i h h2=>V9 _ (acn h) _ (Wh i h h2)
  have hA:∀ L0 L,bY p facts (x.map (·.2))=some L0→L.Perm L0→Adds facts.length p.attrs.length L:=fun L0 L h hp=>(zf hf hs0 Bf Bg h).perm hp.symm
  have Ak:∀ L0 L,bY p facts (x.map (·.2))=some L0→L.Perm L0→jU (bJ L)→Aa facts (n+1) p (eF (bJ L)):=fun L0 L h hp hc=>⟨_,Bf,Wh,L0,L,h,hp,hc,rfl⟩
  have Am:∀ L0 L,bY p facts (x.map (·.2))=some L0→L.Perm L0→¬ jU (bJ L)→Nv facts (n+1) p:=fun L0 L h hp hc=>.inr ⟨_,Bf,Wh,.inr ⟨L0,L,h,hp,hc⟩⟩
  have NM:bY p facts (x.map (·.2))=none→Nv facts (n+1) p:=fun h=>.inr ⟨_,Bf,Wh,.inl h⟩
  clear hev
  refine aNF ?_
  refine R.bZ 5005 rfl rfl ?_
  simp only [go_sem]
  cases hs with
  | table hkd hks h0 h1 hl=>
   rw [hks] at hlen
   obtain rfl:x=[]:=aip.1 (by simpa using hlen)
   have iT:bY p facts ([]:List AM)=some (kM p.table facts):=by unfold bY; rw [acA hkd]
   simp only [acH] at hA Ak Am NM
   refine R.dB 5 80 mixed (by decide +kernel) ?_; simp only [go_sem]
   refine RY.kW (qg) rfl rfl (.nil) ?_
   (refine bg 80 _ _ ?_; simp only [go_sem])
   refine ⟨_,.inl ⟨rfl,.look 139 _ _ false _ _ (key p.kind) 3 138 (.int .i64) (F 150) rfl rfl rfl nP true (by rw [hkd]; exact ⟨rfl,by simp [eU,bH],by simp [eU],0,by simp [eU],rfl,rfl⟩)⟩,ah (by (simp only [go_sem])),?_⟩
   (refine bg 80 _ _ ?_; simp only [go_sem])
   have hcon:=YH p facts [] (by have:=hf.1; omega) (fun f hfm=>by
    obtain ⟨_,h3,h4⟩:=hf.2 f hfm
    obtain ⟨h5,h6⟩:=J5 h4
    have hta:(tl[f.table.toNat]).attrs.length≤200000000:=htl _ (acn h3)
    exact QV h6 (by omega))
   refine R.pJ (t:=30) (f:=150) (by rfl) 60 (by rfl) rfl rfl rfl (ah (by (simp only [go_sem]))) (.cons (.pd _) .nil) hcon (fun r' m' h=>?_) (fun r' h=>by simp at h) ?_
   ·simp [lk] at h
   rintro res M' ⟨r0,rfl,rfl⟩ hh
   have hrr:w.heap.size≤r0:=by
    rcases hh r0 _ (acA rfl) with h | h
    ·simp at h
    ·exact h.1
   clear hh
   have hperm:(kM p.table facts).Perm (kM p.table facts):=.refl _
   rw [Y1]
   simp only [Behind]
   refine aNF ?_
   refine R.dW (by rfl) 60 (by rfl) rfl rfl (ah (by (simp only [go_sem]))) (.cons (.pd _) .nil) (ql r0 (bJ (kM p.table facts)) (jh (kM p.table facts)) ((hA _ _ iT hperm).zS hfl)) (fun r' m' h=>?_) (fun r' h=>?_) ?_
   ·simp only [lk] at h
    split at h
    ·rename_i e; subst e; cases h; simp [St.map,St.put,St.set,lk,after,lI]
    ·cases h
   ·simp only [adh] at h; subst h; exact ⟨by simp [lk],.inl hrr⟩
   rintro res M' (⟨hc,rfl,rfl⟩ | ⟨hc,rfl,rfl⟩) hh <;> clear hh
   ·simp only [Behind]
    refine aNF ?_
    refine R.um (vc:=True) [(r0,aI (eF (bJ (kM p.table facts))))] rfl trivial (.inl ⟨r0,_,rfl,rfl,Ak _ _ iT hperm hc⟩) (fun r' m' h=>?_)
    simp only [lk] at h
    split at h
    ·rename_i e; subst e; cases h; exact ⟨by simp [St.map,lk,after],.inr hrr⟩
    ·cases h
   ·simp only [Behind]
    exact fun a w E g=>qB (.inr ⟨rfl,rfl,Am _ _ iT hperm hc⟩) g
  | sel hkd q hks hq hsv hl=>
   rw [hks] at hlen Bf
   obtain ⟨⟨r1,m1⟩,rfl⟩:=aeT.1 hlen
   have c1:iw facts.length q.attrs.length m1:=by
    have:=Bg 0 (by rw [hks]; simp) (by simp)
    simpa [hks] using this
   have iT:bY p facts [m1]=some (m1.flatMap (oQ p)):=by unfold bY; rw [acg (by omega),hks]; simp [hkd]
   simp only [ab9,acH] at hA Ak Am NM
   refine R.dB 5 80 mixed (by decide +kernel) ?_; simp only [go_sem]
   refine RY.kW (qg) rfl rfl (.nil) ?_
   (refine bg 80 _ _ ?_; simp only [go_sem])
   refine ⟨_,.inl ⟨rfl,.look 139 _ _ false _ _ (key p.kind) 3 138 (.int .i64) (F 151) rfl rfl rfl nP true (by rw [hkd]; exact ⟨rfl,by simp [eU,bH],by simp [eU],1,by simp [eU],rfl,rfl⟩)⟩,ah (by (simp only [go_sem])),?_⟩
   (refine bg 80 _ _ ?_; simp only [go_sem])
   have hcon:=adY p facts r1 m1 c1.nodup (fun q1 hq1 t ht=>Q9 hsv (c1.width q1 hq1) t ht) ((hA _ _ iT (.refl _)).ok hat)
   refine R.pJ (t:=30) (f:=151) (by rfl) 60 (by rfl) rfl rfl rfl (ah (by (simp only [go_sem]))) (.cons (.pd _) .nil) hcon (fun r' m' h=>?_) (fun r' h=>by simp at h) ?_
   ·simp only [lk] at h
    split at h
    ·rename_i e; subst e; cases h; simp [St.map,St.put,St.set,lk,lI]
    ·cases h
   rintro res M' ⟨r0,L,rfl,rfl,hperm⟩ hh
   have hrr:w.heap.size≤r0:=by
    rcases hh r0 _ (acA rfl) with h | h
    ·simp at h
    ·exact h.1
   clear hh
   simp only [Behind]
   refine aNF ?_
   refine R.dW (by rfl) 60 (by rfl) rfl rfl (ah (by (simp only [go_sem]))) (.cons (.pd _) .nil) (ql r0 (bJ L) (jh L) ((hA _ _ iT hperm).zS hfl)) (fun r' m' h=>?_) (fun r' h=>?_) ?_
   ·simp only [lk] at h
    split at h
    ·rename_i e; subst e; cases h; simp [St.map,St.put,St.set,lk,after,lI]
    ·cases h
   ·simp only [adh] at h; subst h; exact ⟨by simp [lk],.inl hrr⟩
   rintro res M' (⟨hc,rfl,rfl⟩ | ⟨hc,rfl,rfl⟩) hh <;> clear hh
   ·simp only [Behind]
    refine aNF ?_
    refine R.um (vc:=True) [(r0,aI (eF (bJ L)))] rfl trivial (.inl ⟨r0,_,rfl,rfl,Ak _ _ iT hperm hc⟩) (fun r' m' h=>?_)
    simp only [lk] at h
    split at h
    ·rename_i e; subst e; cases h; exact ⟨by simp [St.map,lk,after],.inr hrr⟩
    ·cases h
   ·simp only [Behind]
    exact fun a w E g=>qB (.inr ⟨rfl,rfl,Am _ _ iT hperm hc⟩) g
  | proj hkd q hks hq hcc hl=>
   rw [hks] at hlen Bf
   obtain ⟨⟨r1,m1⟩,rfl⟩:=aeT.1 hlen
   have c1:iw facts.length q.attrs.length m1:=by
    have:=Bg 0 (by rw [hks]; simp) (by simp)
    simpa [hks] using this
   have iT:bY p facts [m1]=some (m1.flatMap (o8 p)):=by unfold bY; rw [acg (by omega),hks]; simp [hkd]
   simp only [ab9,acH] at hA Ak Am NM
   refine R.dB 5 80 mixed (by decide +kernel) ?_; simp only [go_sem]
   refine RY.kW (qg) rfl rfl (.nil) ?_
   (refine bg 80 _ _ ?_; simp only [go_sem])
   refine ⟨_,.inl ⟨rfl,.look 139 _ _ false _ _ (key p.kind) 3 138 (.int .i64) (F 152) rfl rfl rfl nP true (by rw [hkd]; exact ⟨rfl,by simp [eU,bH],by simp [eU],2,by simp [eU],rfl,rfl⟩)⟩,ah (by (simp only [go_sem])),?_⟩
   (refine bg 80 _ _ ?_; simp only [go_sem])
   have hcon:=SB p facts r1 m1 c1.nodup ((jq p).1 ho).2.1 (fun q1 hq1 c hc=>by rw [c1.width q1 hq1]; exact hcc c hc) ((hA _ _ iT (.refl _)).ok hat)
   refine R.pJ (t:=30) (f:=152) (by rfl) 60 (by rfl) rfl rfl rfl (ah (by (simp only [go_sem]))) (.cons (.pd _) .nil) hcon (fun r' m' h=>?_) (fun r' h=>by simp at h) ?_
   ·simp only [lk] at h
    split at h
    ·rename_i e; subst e; cases h; simp [St.map,St.put,St.set,lk,lI]
    ·cases h
   rintro res M' ⟨r0,L,rfl,rfl,hperm⟩ hh
   have hrr:w.heap.size≤r0:=by
    rcases hh r0 _ (acA rfl) with h | h
    ·simp at h
    ·exact h.1
   clear hh
   simp only [Behind]
   refine aNF ?_
   refine R.dW (by rfl) 60 (by rfl) rfl rfl (ah (by (simp only [go_sem]))) (.cons (.pd _) .nil) (ql r0 (bJ L) (jh L) ((hA _ _ iT hperm).zS hfl)) (fun r' m' h=>?_) (fun r' h=>?_) ?_
   ·simp only [lk] at h
    split at h
    ·rename_i e; subst e; cases h; simp [St.map,St.put,St.set,lk,after,lI]
    ·cases h
   ·simp only [adh] at h; subst h; exact ⟨by simp [lk],.inl hrr⟩
   rintro res M' (⟨hc,rfl,rfl⟩ | ⟨hc,rfl,rfl⟩) hh <;> clear hh
   ·simp only [Behind]
    refine aNF ?_
    refine R.um (vc:=True) [(r0,aI (eF (bJ L)))] rfl trivial (.inl ⟨r0,_,rfl,rfl,Ak _ _ iT hperm hc⟩) (fun r' m' h=>?_)
    simp only [lk] at h
    split at h
    ·rename_i e; subst e; cases h; exact ⟨by simp [St.map,lk,after],.inr hrr⟩
    ·cases h
   ·simp only [Behind]
    exact fun a w E g=>qB (.inr ⟨rfl,rfl,Am _ _ iT hperm hc⟩) g
  | join hkd q r hks hq hr hn hj=>
   rw [hks] at hlen Bf
   obtain ⟨⟨r1,m1⟩,⟨r2,m2⟩,rfl⟩:=qo hlen
   have c1:iw facts.length q.attrs.length m1:=by
    have:=Bg 0 (by rw [hks]; simp) (by simp)
    simpa [hks] using this
   have c2:iw facts.length r.attrs.length m2:=by
    have:=Bg 1 (by rw [hks]; simp) (by simp)
    simpa [hks] using this
   have h12:r1≠r2:=by simpa using hnd
   have iT:bY p facts [m1,m2]=some (m1.flatMap fun q1=>m2.flatMap (iH q.attrs r.attrs q1)):=by unfold bY; rw [acg (by omega),hks]; simp [hkd]
   simp only [ab9,acH] at hA Ak Am NM
   refine R.dB 5 80 mixed (by decide +kernel) ?_; simp only [go_sem]
   refine RY.kW (qg) rfl rfl (.nil) ?_
   (refine bg 80 _ _ ?_; simp only [go_sem])
   refine ⟨_,.inl ⟨rfl,.look 139 _ _ false _ _ (key p.kind) 3 138 (.int .i64) (F 153) rfl rfl rfl nP true (by rw [hkd]; exact ⟨rfl,by simp [eU,bH],by simp [eU],3,by simp [eU],rfl,rfl⟩)⟩,ah (by (simp only [go_sem])),?_⟩
   (refine bg 80 _ _ ?_; simp only [go_sem])
   have hcon:=abm p q r facts hks r1 r2 m1 m2 h12 c1.nodup c2.nodup (c1.lens hfl) (c2.lens hfl) hn (ahB q (by rw [hks]; simp)) (ahB r (by rw [hks]; simp)) c1.width c2.width ((hA _ _ iT (.refl _)).ok hat)
   refine R.pJ (t:=30) (f:=153) (by rfl) 60 (by rfl) rfl rfl rfl (ah (by (simp only [go_sem]))) (.cons (.pd _) .nil) hcon (fun r' m' h=>?_) (fun r' h=>by simp at h) ?_
   ·have hz:=bK h12
    simp only [lk] at h
    split at h
    ·rename_i e; subst e; cases h; simp [St.map,St.put,St.set,lk,lI,hz]
    ·split at h
     ·rename_i e; subst e; cases h; simp [St.map,St.put,St.set,lk,lI,hz]
     ·cases h
   rintro res M' ⟨r0,L,rfl,rfl,hperm⟩ hh
   have hrr:w.heap.size≤r0:=by
    rcases hh r0 _ (acA rfl) with h | h
    ·simp at h
    ·exact h.1
   clear hh
   simp only [Behind]
   refine aNF ?_
   refine R.dW (by rfl) 60 (by rfl) rfl rfl (ah (by (simp only [go_sem]))) (.cons (.pd _) .nil) (ql r0 (bJ L) (jh L) ((hA _ _ iT hperm).zS hfl)) (fun r' m' h=>?_) (fun r' h=>?_) ?_
   ·simp only [lk] at h
    split at h
    ·rename_i e; subst e; cases h; simp [St.map,St.put,St.set,lk,after,lI]
    ·cases h
   ·simp only [adh] at h; subst h; exact ⟨by simp [lk],.inl hrr⟩
   rintro res M' (⟨hc,rfl,rfl⟩ | ⟨hc,rfl,rfl⟩) hh <;> clear hh
   ·simp only [Behind]
    refine aNF ?_
    refine R.um (vc:=True) [(r0,aI (eF (bJ L)))] rfl trivial (.inl ⟨r0,_,rfl,rfl,Ak _ _ iT hperm hc⟩) (fun r' m' h=>?_)
    simp only [lk] at h
    split at h
    ·rename_i e; subst e; cases h; exact ⟨by simp [St.map,lk,after],.inr hrr⟩
    ·cases h
   ·simp only [Behind]
    exact fun a w E g=>qB (.inr ⟨rfl,rfl,Am _ _ iT hperm hc⟩) g
  | union hkd q r hks hq hr hl1 hl2=>
   rw [hks] at hlen Bf
   obtain ⟨⟨r1,m1⟩,⟨r2,m2⟩,rfl⟩:=qo hlen
   have c1:iw facts.length q.attrs.length m1:=by
    have:=Bg 0 (by rw [hks]; simp) (by simp)
    simpa [hks] using this
   have c2:iw facts.length r.attrs.length m2:=by
    have:=Bg 1 (by rw [hks]; simp) (by simp)
    simpa [hks] using this
   have h12:r1≠r2:=by simpa using hnd
   have iT:bY p facts [m1,m2]=some (gq m1++gq m2):=by unfold bY; rw [acg (by omega),hks]; simp [hkd]
   simp only [ab9,acH] at hA Ak Am NM
   refine R.dB 5 80 mixed (by decide +kernel) ?_; simp only [go_sem]
   refine RY.kW (qg) rfl rfl (.nil) ?_
   (refine bg 80 _ _ ?_; simp only [go_sem])
   refine ⟨_,.inl ⟨rfl,.look 139 _ _ false _ _ (key p.kind) 3 138 (.int .i64) (F 154) rfl rfl rfl nP true (by rw [hkd]; exact ⟨rfl,by simp [eU,bH],by simp [eU],4,by simp [eU],rfl,rfl⟩)⟩,ah (by (simp only [go_sem])),?_⟩
   (refine bg 80 _ _ ?_; simp only [go_sem])
   have hcon:=YI p facts r1 r2 m1 m2 h12 c1.nodup c2.nodup ((hA _ _ iT (.refl _)).ok hat)
   refine R.pJ (t:=30) (f:=154) (by rfl) 60 (by rfl) rfl rfl rfl (ah (by (simp only [go_sem]))) (.cons (.pd _) .nil) hcon (fun r' m' h=>?_) (fun r' h=>by simp at h) ?_
   ·have hz:=bK h12
    simp only [lk] at h
    split at h
    ·rename_i e; subst e; cases h; simp [St.map,St.put,St.set,lk,lI,hz]
    ·split at h
     ·rename_i e; subst e; cases h; simp [St.map,St.put,St.set,lk,lI,hz]
     ·cases h
   rintro res M' ⟨r0,L,rfl,rfl,hperm⟩ hh
   have hrr:w.heap.size≤r0:=by
    rcases hh r0 _ (acA rfl) with h | h
    ·simp at h
    ·exact h.1
   clear hh
   simp only [Behind]
   refine aNF ?_
   refine R.dW (by rfl) 60 (by rfl) rfl rfl (ah (by (simp only [go_sem]))) (.cons (.pd _) .nil) (ql r0 (bJ L) (jh L) ((hA _ _ iT hperm).zS hfl)) (fun r' m' h=>?_) (fun r' h=>?_) ?_
   ·simp only [lk] at h
    split at h
    ·rename_i e; subst e; cases h; simp [St.map,St.put,St.set,lk,after,lI]
    ·cases h
   ·simp only [adh] at h; subst h; exact ⟨by simp [lk],.inl hrr⟩
   rintro res M' (⟨hc,rfl,rfl⟩ | ⟨hc,rfl,rfl⟩) hh <;> clear hh
   ·simp only [Behind]
    refine aNF ?_
    refine R.um (vc:=True) [(r0,aI (eF (bJ L)))] rfl trivial (.inl ⟨r0,_,rfl,rfl,Ak _ _ iT hperm hc⟩) (fun r' m' h=>?_)
    simp only [lk] at h
    split at h
    ·rename_i e; subst e; cases h; exact ⟨by simp [St.map,lk,after],.inr hrr⟩
    ·cases h
   ·simp only [Behind]
    exact fun a w E g=>qB (.inr ⟨rfl,rfl,Am _ _ iT hperm hc⟩) g
  | minus hkd q r hks hq hr hl1 hl2=>
   rw [hks] at hlen Bf
   obtain ⟨⟨r1,m1⟩,⟨r2,m2⟩,rfl⟩:=qo hlen
   have c1:iw facts.length q.attrs.length m1:=by
    have:=Bg 0 (by rw [hks]; simp) (by simp)
    simpa [hks] using this
   have c2:iw facts.length r.attrs.length m2:=by
    have:=Bg 1 (by rw [hks]; simp) (by simp)
    simpa [hks] using this
   have h12:r1≠r2:=by simpa using hnd
   simp only [ab9,acH] at hA Ak Am NM
   refine R.dB 5 80 mixed (by decide +kernel) ?_; simp only [go_sem]
   refine RY.kW (qg) rfl rfl (.nil) ?_
   (refine bg 80 _ _ ?_; simp only [go_sem])
   refine ⟨_,.inl ⟨rfl,.look 139 _ _ false _ _ (key p.kind) 3 138 (.int .i64) (F 155) rfl rfl rfl nP true (by rw [hkd]; exact ⟨rfl,by simp [eU,bH],by simp [eU],5,by simp [eU],rfl,rfl⟩)⟩,ah (by (simp only [go_sem])),?_⟩
   (refine bg 80 _ _ ?_; simp only [go_sem])
   have hcon:=YL p facts r1 r2 m1 m2 h12 c1.nodup c2.nodup (c1.lens hfl) (c2.lens hfl) ((J8 c1 c2).ok (by rw [← hl1]; exact hat))
   refine R.pJ (t:=30) (f:=155) (by rfl) 60 (by rfl) rfl rfl rfl (ah (by (simp only [go_sem]))) (.cons (.pd _) .nil) hcon (fun r' m' h=>?_) (fun r' h=>by simp at h) ?_
   ·have hz:=bK h12
    simp only [lk] at h
    split at h
    ·rename_i e; subst e; cases h; simp [St.map,St.put,St.set,lk,lI,hz]
    ·split at h
     ·rename_i e; subst e; cases h; simp [St.map,St.put,St.set,lk,lI,hz]
     ·cases h
   rintro res M' hQ hh
   split at hQ
   case isFalse hno=>
    obtain ⟨rfl,rfl⟩:=hQ
    simp only [Behind]
    refine fun a w E g=>qB (.inr ⟨rfl,rfl,NM ?_⟩) g
    unfold bY
    rw [acg (by omega),hks]
    simp only
    rw [acg (by omega),acg (by omega),acg (fun h=>hno (by simpa using h))]
   case isTrue hyes=>
   have iT:bY p facts [m1,m2]=some (m1.flatMap (jQ m2)):=by
    unfold bY
    rw [acg (by omega),hks]
    simp only
    rw [acg (by omega),acg (by omega),acA (by simpa using hyes)]
   obtain ⟨r0,L,rfl,rfl,hperm⟩:=hQ
   have hrr:w.heap.size≤r0:=by
    rcases hh r0 _ (acA rfl) with h | h
    ·simp at h
    ·exact h.1
   clear hh
   simp only [Behind]
   refine aNF ?_
   refine R.dW (by rfl) 60 (by rfl) rfl rfl (ah (by (simp only [go_sem]))) (.cons (.pd _) .nil) (ql r0 (bJ L) (jh L) ((hA _ _ iT hperm).zS hfl)) (fun r' m' h=>?_) (fun r' h=>?_) ?_
   ·simp only [lk] at h
    split at h
    ·rename_i e; subst e; cases h; simp [St.map,St.put,St.set,lk,after,lI]
    ·cases h
   ·simp only [adh] at h; subst h; exact ⟨by simp [lk],.inl hrr⟩
   rintro res M' (⟨hc,rfl,rfl⟩ | ⟨hc,rfl,rfl⟩) hh <;> clear hh
   ·simp only [Behind]
    refine aNF ?_
    refine R.um (vc:=True) [(r0,aI (eF (bJ L)))] rfl trivial (.inl ⟨r0,_,rfl,rfl,Ak _ _ iT hperm hc⟩) (fun r' m' h=>?_)
    simp only [lk] at h
    split at h
    ·rename_i e; subst e; cases h; exact ⟨by simp [St.map,lk,after],.inr hrr⟩
    ·cases h
   ·simp only [Behind]
    exact fun a w E g=>qB (.inr ⟨rfl,rfl,Am _ _ iT hperm hc⟩) g
  | ren hkd q hks hq hl=>
   rw [hks] at hlen Bf
   obtain ⟨⟨r1,m1⟩,rfl⟩:=aeT.1 hlen
   have c1:iw facts.length q.attrs.length m1:=by
    have:=Bg 0 (by rw [hks]; simp) (by simp)
    simpa [hks] using this
   have iT:bY p facts [m1]=some (gq m1):=by unfold bY; rw [acg (by omega),hks]; simp [hkd]
   simp only [ab9,acH] at hA Ak Am NM
   have hperm:(gq m1).Perm (gq m1):=.refl _
   have hself:=YQ c1
   have hrr:w.heap.size≤r1:=hge (r1,m1) (by simp)
   refine R.dB 5 80 mixed (by decide +kernel) ?_; simp only [go_sem]
   refine RY.kW (qg) rfl rfl (.nil) ?_
   (refine bg 80 _ _ ?_; simp only [go_sem])
   refine ⟨_,.inl ⟨rfl,.look 139 _ _ false _ _ (key p.kind) 3 138 (.int .i64) (F 156) rfl rfl rfl nP true (by rw [hkd]; exact ⟨rfl,by simp [eU,bH],by simp [eU],6,by simp [eU],rfl,rfl⟩)⟩,ah (by (simp only [go_sem])),?_⟩
   (refine bg 80 _ _ ?_; simp only [go_sem])
   have hcon:=(VU p facts r1 []).toM
   refine R.pJ (t:=30) (f:=156) (by rfl) 60 (by rfl) rfl rfl rfl (ah (by (simp only [go_sem]))) (.cons (.pd _) .nil) hcon (fun r' m' h=>?_) (fun r' h=>by simp at h) ?_
   ·simp [lk] at h
   rintro res M' ⟨rfl,rfl⟩ hh; clear hh
   simp only [Behind]
   refine aNF ?_
   refine R.dW (by rfl) 60 (by rfl) rfl rfl (ah (by (simp only [go_sem]))) (.cons (.pd _) .nil) (ql r1 (bJ (gq m1)) (jh (gq m1)) ((hA _ _ iT hperm).zS hfl)) (fun r' m' h=>?_) (fun r' h=>?_) ?_
   ·simp only [lk] at h
    split at h
    ·rename_i e; subst e; rw [hself] at h; cases h; simp [St.map,St.put,St.set,lk,after,lI]
    ·cases h
   ·simp only [adh] at h; subst h; exact ⟨by simp [lk],.inl hrr⟩
   rintro res M' (⟨hc,rfl,rfl⟩ | ⟨hc,rfl,rfl⟩) hh <;> clear hh
   ·simp only [Behind]
    refine aNF ?_
    refine R.um (vc:=True) [(r1,aI (eF (bJ (gq m1))))] rfl trivial (.inl ⟨r1,_,rfl,rfl,Ak _ _ iT hperm hc⟩) (fun r' m' h=>?_)
    simp only [lk] at h
    split at h
    ·rename_i e; subst e; cases h; exact ⟨by simp [St.map,lk,after],.inr hrr⟩
    ·cases h
   ·simp only [Behind]
    exact fun a w E g=>qB (.inr ⟨rfl,rfl,Am _ _ iT hperm hc⟩) g
end Go.Proofs.Z
