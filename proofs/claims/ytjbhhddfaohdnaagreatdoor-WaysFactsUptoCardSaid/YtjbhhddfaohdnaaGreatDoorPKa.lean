/- A part of the proof. -/
import Derived.Test.YtjbhhddfaohdnaaGreatDoorPRv
set_option linter.all false
set_option linter.deprecated false
namespace Go.Proofs.Z
open Go Go.au Go.Proofs
set_option maxRecDepth 10000
set_option maxHeartbeats 4000000
theorem alB:aH Tryz.prog 42:=fun _ _=>by kernel_rfl
theorem aaf (t:Int) (facts:List bF):qK t facts facts.length=bQ (kQ t facts):=by
 have:∀ (l:List (bF × Nat)) (m:AM),l.foldl (JE t) m=(l.flatMap fun q=>if q.1.table=t then [(q.1.row,[(⟨[(q.2:Int)],[]⟩:W)])] else []).foldl (fun m x=>jL (rowB x.1) x.1 x.2 m) m:=by
  intro l
  induction l with
  | nil=>intro m; rfl
  | cons q l ih=>
   intro m
   rw [List.foldl_cons,aqo,asK,ih]
   congr 1
   unfold JE
   split <;> rfl
 unfold qK
 rw [adw (aew _)]
 exact this _ _
abbrev xu (p:Plan):List SV:=[.pd (I p.kind),.pd (I p.table),.pd (plans p.kids),.pd (nD p.tests),.pd (ints p.cols),.pd (I p.col),.pd (I p.agg),.pd (attrs p.attrs)]
abbrev gu (p:Plan):PD:=.ak [I p.kind,I p.table,plans p.kids,nD p.tests,ints p.cols,I p.col,I p.agg,attrs p.attrs]
theorem Tt {p q:Plan} (h:Gp p q=true) {row:List V} (hl:row.length=q.attrs.length) (t:yA) (ht:t∈p.tests):lJ row t.left∧lJ row t.right:=by
 unfold Gp at h
 simp only [af5,ap8,apY] at h
 have h1:=h.2 t ht
 have h1:vN t q.attrs.length=true:=by simpa using h1
 unfold vN at h1
 simp only [af5] at h1
 have hs:∀ s:Side,Ic s q.attrs.length=true→lJ row s:=by
  intro s hs
  unfold Ic at hs
  split at hs
  ·exact .inl (by assumption)
  ·simp only [af5,aqp] at hs
   exact .inr ⟨hs.1.1.2,by omega⟩
 exact ⟨hs _ h1.1.1.2,hs _ h1.1.2⟩
def l9 (q:Nat × AM):Nat × dX:=(q.1,.map (aI q.2))
def eu (facts:List bF) (n:Nat) (p:Plan) (res:iV) (M':Maps):Prop:=(∃ r m,res = .ret [mref r]∧M'=[(r,aI m)]∧Bc facts n p m)∨(res = .xZ Zi∧M'=[]∧OJ facts n p)
theorem EH {n:Nat} {sl:List (Nat × SV)} {vs:List (Nat × List SV)} {rs:List (Nat × Row)} {mm:List (Nat × dX)} {gs:List (Nat × SV)} (h:(mm.map (·.1)).Nodup):C9 ⟨n,sl,vs,rs,mm,gs⟩ mm:=Tq fun p hp=>JL h p hp
theorem Ad {n:Nat} {sl:List (Nat × SV)} {vs:List (Nat × List SV)} {rs:List (Nat × Row)} {mm:List (Nat × dX)} {gs:List (Nat × SV)} {r:Nat} {o:dX} (h:(mm.map (·.1)).Nodup) (hr:r∉mm.map (·.1)):C9 ⟨n,sl,vs,rs,(r,o)::mm,gs⟩ mm:=
 Tq fun p hp=>by
  simp only [St.map,lk]
  rw [adt (fun e=>hr (adE.2 ⟨p,hp,e.symm⟩))]
  exact JL h p hp
theorem aag (o:dX):o.wrote []=o:=by cases o <;> simp [dX.wrote]
theorem aah (M':Maps) (ms:List (Nat × dX)):after [] M' ms=(M'.map fun p=>(p.1,.map p.2))++ms:=by
 unfold after
 congr 1
 simp [aag]
def oD (p q:Plan) (facts:List bF) (k:Nat) (x:List (Nat × SV)) (r:List PD) (mm:List (Nat × dX)):St:=
 ⟨34,(14,.pd (I k))::(1,.pd (eY facts))::(2,.aG 2 0)::(4,.pd (.raw (.map none)))::(5,.aG 5 0)::(7,.aG 7 0)::(12,.pd (plans p.kids))::(13,.pd (I p.kids.length))::x,[(2,xu p),(5,xu p++[.pd (eY facts),.own 5005]),(7,xu q)],[(5005,⟨95,1,r⟩)],mm,[]⟩
attribute [go_sem] oD
def T42 (p q:Plan) (facts:List bF) (k:Nat) (X:List PD) (mm:List (Nat × dX)) (x:Nat × AM):Nat→St
 | 0=>oD p q facts k [] (X) (mm)
 | 1=>oD p q facts k [(18,.aG 5 9)] (X) (mm)
 | 3=>oD p q facts k [(18,.aG 5 9),(19,.own 5005)] (X) (mm)
 | 4=>oD p q facts k [(20,.pd (gu q))] (X) (mm)
 | 5=>oD p q facts k [(18,.aG 5 9),(20,.pd (gu q))] (X) (mm)
 | 7=>oD p q facts k [(18,.aG 5 9),(19,.own 5005),(20,.pd (gu q))] (X) (mm)
 | 8=>oD p q facts k [(21,.pd (eY facts))] (X) (mm)
 | 9=>oD p q facts k [(18,.aG 5 9),(21,.pd (eY facts))] (X) (mm)
 | 11=>oD p q facts k [(18,.aG 5 9),(19,.own 5005),(21,.pd (eY facts))] (X) (mm)
 | 12=>oD p q facts k [(20,.pd (gu q)),(21,.pd (eY facts))] (X) (mm)
 | 13=>oD p q facts k [(18,.aG 5 9),(20,.pd (gu q)),(21,.pd (eY facts))] (X) (mm)
 | 15=>oD p q facts k [(18,.aG 5 9),(19,.own 5005),(20,.pd (gu q)),(21,.pd (eY facts))] (X) (mm)
 | 28=>oD p q facts k [(20,.pd (gu q)),(21,.pd (eY facts)),(22,.pd (mref x.1))] (X) ((x.1,.map (aI x.2))::mm)
 | 29=>oD p q facts k [(18,.aG 5 9),(20,.pd (gu q)),(21,.pd (eY facts)),(22,.pd (mref x.1))] (X) ((x.1,.map (aI x.2))::mm)
 | 31=>oD p q facts k [(18,.aG 5 9),(19,.own 5005),(20,.pd (gu q)),(21,.pd (eY facts)),(22,.pd (mref x.1))] (X) ((x.1,.map (aI x.2))::mm)
 | 60=>oD p q facts k [(20,.pd (gu q)),(21,.pd (eY facts)),(22,.pd (mref x.1)),(23,.pd (.list 1 [mref x.1]))] (X) ((x.1,.map (aI x.2))::mm)
 | 61=>oD p q facts k [(18,.aG 5 9),(20,.pd (gu q)),(21,.pd (eY facts)),(22,.pd (mref x.1)),(23,.pd (.list 1 [mref x.1]))] (X) ((x.1,.map (aI x.2))::mm)
 | 63=>oD p q facts k [(18,.aG 5 9),(19,.own 5005),(20,.pd (gu q)),(21,.pd (eY facts)),(22,.pd (mref x.1)),(23,.pd (.list 1 [mref x.1]))] (X) ((x.1,.map (aI x.2))::mm)
 | 127=>⟨34,[(14,.pd (I k)),(1,.pd (eY facts)),(2,.aG 2 0),(4,.pd (.raw (.map none))),(5,.aG 5 0),(7,.aG 7 0),(12,.pd (plans p.kids)),(13,.pd (I p.kids.length)),(18,.aG 5 9),(20,.pd (gu q)),(21,.pd (eY facts)),(22,.pd (mref x.1)),(23,.pd (.list 1 [mref x.1])),(24,.own 5005)],[(2,xu p),(5,xu p++[.pd (eY facts),.dead]),(7,xu q)],[(5005,⟨95,1,X++[mref x.1]⟩)],(x.1,.map (aI x.2))::mm,[]⟩
 | 255=>⟨34,[(14,.pd (I k)),(1,.pd (eY facts)),(2,.aG 2 0),(4,.pd (.raw (.map none))),(5,.aG 5 0),(7,.aG 7 0),(12,.pd (plans p.kids)),(13,.pd (I p.kids.length)),(18,.aG 5 9),(20,.pd (gu q)),(21,.pd (eY facts)),(22,.pd (mref x.1)),(23,.pd (.list 1 [mref x.1])),(24,.own 5005),(25,.aG 5 9)],[(2,xu p),(5,xu p++[.pd (eY facts),.dead]),(7,xu q)],[(5005,⟨95,1,X++[mref x.1]⟩)],(x.1,.map (aI x.2))::mm,[]⟩
 | 511=>oD p q facts k [(18,.aG 5 9),(20,.pd (gu q)),(21,.pd (eY facts)),(22,.pd (mref x.1)),(23,.pd (.list 1 [mref x.1])),(24,.own 5005),(25,.aG 5 9)] (X++[mref x.1]) ((x.1,.map (aI x.2))::mm)
 | _=>⟨0,[],[],[],[],[]⟩
def ai7:List (Nat × Nat):=[(0,0),(0,2),(0,3),(1,1),(1,2),(1,3),(4,0),(4,3),(8,0),(8,2),(3,2),(3,3),(5,1),(5,3),(9,1),(9,2),(12,0),(12,4),(7,3),(11,2),(13,1),(13,4),(28,0),(28,5),(15,4),(29,1),(29,5),(60,0),(31,5),(61,1),(63,6),(127,7),(255,8)]
theorem PZ {tl:List bH} {facts:List bF} (hf:iT tl facts) (htl:∀ t∈tl,t.attrs.length≤200000000) (n:Nat) (p:Plan) (ho:mZ p) (ai8:∀ q∈p.kids,q.attrs.length≤100000000) (hs:Shape tl n p) (ih:∀ q∈p.kids,eH Tryz.prog 42 [.pd (plan q),.pd (eY facts)] [] [] (eu facts n q)) (XJ:∀ q∈p.kids,∀ m,Bc facts n q m→fF facts.length q.attrs.length m):
  eH Tryz.prog 42 [.pd (plan p),.pd (eY facts)] [] [] (eu facts (n+1) p):=by
 rw [aJ p]
 refine eH.mk Tryz.func42 rfl alB (by simp [Tryz.ntmps42]) fun w G=>?_
 refine aQk ?_
 refine R.LU 5 9 5005 95 1 rfl rfl (by simp) rfl ?_
 simp only [go_sem]
 refine R.wC (fun (x:List (Nat × AM)) s=>{ St.lp [1,2,4,5,12,13,27,28,29,30,31,32,33] [(14,.pd (I x.length))] [2] [(5,xu p++[.pd (eY facts),.own 5005])] [] [(5005,⟨95,1,x.map fun q=>mref q.1⟩)] s with maps:=x.reverse.map l9 }) (fun (x:List (Nat × AM))=>x.length≤p.kids.length∧(x.map (·.1)).Nodup∧(∀ q∈x,w.heap.size≤q.1)∧∀ i (h:i<p.kids.length) (h2:i<x.length),Bc facts n p.kids[i] x[i].2) (fun (x:List (Nat × AM))=>p.kids.length - x.length) ([]) (⟨by simp,by simp,by simp,by simp⟩) (by (simp only [go_sem,List.reverse_nil]); all_goals (and_intros <;> first | rfl | simp)) ?_
 rintro x ⟨hk,hnd,hge,hev⟩
 apply aB; simp only [go_sem,aau,SV.pd.injEq]
 refine ⟨fun h=>?_,fun h=>?_⟩
 ·have hlt:x.length<p.kids.length:=by simpa using h
  have hnm:((x.reverse.map l9).map (·.1)).Nodup:=by
   have:(x.reverse.map l9).map (·.1)=(x.map (·.1)).reverse:=by simp [l9,Function.comp_def]
   rw [this]; exact List.pairwise_reverse.2 (hnd.imp fun h=>aqm h)
  have hkl:=((jG p).1 ho).2.2.2.1
  apply aB; simp only [go_sem,aau,SV.pd.injEq,getD_map,hlt,aJ p.kids[x.length]]
  repeat refine ⟨by omega,?_⟩
  have ihq:=ih p.kids[x.length] (aaO hlt)
  rw [aJ] at ihq
  have ael:OJ facts n p.kids[x.length]→OJ facts (n+1) p:=fun h=>.inl ⟨x.length,hlt,h⟩
  have hX:(x.map fun q=>mref q.1).length≤100000000:=by simp; omega
  generalize hq:p.kids[x.length]=q at ihq ael
  generalize hXX:(x.map fun q=>mref q.1)=X at hX
  generalize hmm:x.reverse.map l9=mm at hnm
  refine R.to (T42 p q facts x.length X mm (0,[]) 0) (by simp only [T42.eq_1]; (simp only [go_sem]); all_goals first | (and_intros <;> first | rfl | exact EH hnm) | exact EH hnm) ?_
  refine R.alz (T42 p q facts x.length X mm) (fun y m=>m.testBit 4=true→y.1∉mm.map (·.1)∧w.heap.size≤y.1∧Bc facts n q y.2) ai7 511 mixed (by kernel_rfl) (by kernel_rfl) (by kernel_rfl) (0,[]) (fun h=>absurd h (by decide)) (fun h=>h) ?_ ?_
  ·unfold ai7
   repeat' (refine ajy.2 ⟨?_,?_⟩)
   all_goals first
    | exact avl _
    | (intro y0 hx
       simp only [T42,Nat.reduceOr,Nat.reducePow,Nat.reduceShiftLeft]
       refine aQk ?_
       try refine R.dF (r:=⟨95,1,X⟩) (d:=mref y0.1) 1000000000 8 rfl rfl (by (simp only [go_sem])) rfl rfl rfl rfl adK rfl agR (by simp) (congrArg (Option.map List.length) agT) rfl agS (by simp; omega) (by decide) (by decide) ?_
       refine aQk ?_
       exact R.oL ⟨y0,(fun h=>by first | exact absurd h (by decide) | exact hx (by decide)),rfl⟩ (by (simp only [go_sem]); first | (done) | (refine ⟨?_,?_⟩ <;> first | rfl | exact EH hnm | exact Ad hnm (hx (by decide)).1) | exact EH hnm | exact Ad hnm (hx (by decide)).1))
    | (intro y0 hx
       simp only [T42,Nat.reduceOr,Nat.reducePow,Nat.reduceShiftLeft]
       refine aQk ?_
       refine R.eG (by rfl) 77 (by rfl) rfl rfl (ah (by (simp only [go_sem]))) (.cons (.pd _) (.cons (.pd _) .nil)) ihq (fun r' m' h=>by simp [lk] at h) (fun r' h=>by simp at h) ?_
       rintro res M' (⟨r,m,rfl,rfl,hev2⟩ | ⟨rfl,rfl,hx2⟩) hh
       ·rcases hh r (aI m) (by simp [lk]) with h | ⟨h1,h2⟩
        ·simp at h
        have hr:=VL h2
        simp only [Behind,aah,ads,adG,List.cons_append,List.nil_append]
        refine aQk ?_
        exact R.oL ⟨(r,m),(fun _=>⟨hr,h1,hev2⟩),rfl⟩ (by (simp only [go_sem]); first | (done) | (refine ⟨?_,?_⟩ <;> first | rfl | exact Ad hnm hr) | exact Ad hnm hr)
       ·simp only [Behind]
        exact fun a w E g=>qW (.inr ⟨rfl,rfl,ael hx2⟩) g)
  ·intro y hy
   obtain ⟨hy1,hy2,hy3⟩:=hy (by decide)
   simp only [T42.eq_21]
   subst hXX; subst hmm; subst hq
   have alC:y.1∉x.map (·.1):=fun hin=>hy1 (by
    obtain ⟨q,hq,e⟩:=adE.1 hin
    exact adE.2 ⟨l9 q,adE.2 ⟨q,by simpa using hq,rfl⟩,e⟩)
   apply ev8; simp only [go_sem,wrapN (k:=x.length) (by omega)]
   refine R.jo (x++[y]) ⟨by simp; omega,by rw [aei]; exact ap9.2 ⟨hnd,by simp,fun a ha b hb e=>by simp at hb; subst hb; subst e; exact alC ha⟩,fun q hq=>?_,fun i hi hi2=>?_⟩ (by show _<_; simp; omega) ?_
   ·rcases agh.1 hq with h | h
    ·exact hge q h
    ·rw [adJ.1 h]; exact hy2
   ·by_cases e:i<x.length
    ·have:(x++[y])[i]=x[i]:=asY e
     rw [this]; exact hev i hi e
    ·have e2:i=x.length:=by simp at hi2; omega
     subst e2
     simp only [arH (aew _),auq,List.getElem_cons_zero]
     exact hy3
   ·simp only [go_sem,aec,aei,List.reverse_append,List.reverse_cons,List.reverse_nil]
    exact ⟨by simp [l9],Ad hnm hy1⟩
 ·have hlen:x.length=p.kids.length:=by
   have h':¬ x.length<p.kids.length:=(by simpa using h)
   omega
  have hat:p.attrs.length≤200000000:=by have:=((jG p).1 ho).1; omega
  have hfl:facts.length≤1000000:=by have:=hf.1; omega
  have hs0:=hs
  have Cj:(x.map (·.2)).length=p.kids.length:=by simpa using hlen
  have XK:∀ i (h:i<p.kids.length) (h2:i<(x.map (·.2)).length),Bc facts n p.kids[i] (x.map (·.2))[i]:=fun i h h2=>by
   simp only [apX]; exact hev i h (by simpa using h2)
  have Cm:∀ i (h:i<p.kids.length) (h2:i<(x.map (·.2)).length),fF facts.length p.kids[i].attrs.length (x.map (·.2))[i]:=fun i h h2=>XJ _ (aaO h) _ (XK i h h2)
  have hA:∀ L0 L,bY p facts (x.map (·.2))=some L0→L.Perm L0→Adds facts.length p.attrs.length L:=fun L0 L h hp=>(wQ hf hs0 Cj Cm h).perm hp.symm
  have Bv:∀ L0 L,bY p facts (x.map (·.2))=some L0→L.Perm L0→kP (bQ L)→Bc facts (n+1) p (eF (bQ L)):=fun L0 L h hp hc=>⟨_,Cj,XK,L0,L,h,hp,hc,rfl⟩
  have Bz:∀ L0 L,bY p facts (x.map (·.2))=some L0→L.Perm L0→¬ kP (bQ L)→OJ facts (n+1) p:=fun L0 L h hp hc=>.inr ⟨_,Cj,XK,.inr ⟨L0,L,h,hp,hc⟩⟩
  have OW:bY p facts (x.map (·.2))=none→OJ facts (n+1) p:=fun h=>.inr ⟨_,Cj,XK,.inl h⟩
  clear hev
  refine aQk ?_
  refine R.bT 5005 rfl rfl ?_
  simp only [go_sem]
  cases hs with
  | table hkd hks h0 h1 hl=>
   rw [hks] at hlen
   obtain rfl:x=[]:=ai9.1 (by simpa using hlen)
   have je:bY p facts ([]:List AM)=some (kQ p.table facts):=by unfold bY; rw [adA hkd]
   simp only [adG] at hA Bv Bz OW
   refine R.dA 5 80 mixed (by decide +kernel) ?_; simp only [go_sem]
   refine RY.kW (qJ) rfl rfl (.nil) ?_
   (refine aZ 80 _ _ ?_; simp only [go_sem])
   refine ⟨_,.inl ⟨rfl,.look 139 _ _ false _ _ (key p.kind) 3 138 (.int .i64) (F 150) rfl rfl rfl oN true (by rw [hkd]; exact ⟨rfl,by simp [fB,bV],by simp [fB],0,by simp [fB],rfl,rfl⟩)⟩,ah (by (simp only [go_sem])),?_⟩
   (refine aZ 80 _ _ ?_; simp only [go_sem])
   have hcon:=ZP p facts [] (by have:=hf.1; omega) (fun f hfm=>by
    obtain ⟨_,h3,h4⟩:=hf.2 f hfm
    obtain ⟨h5,h6⟩:=Ls h4
    have hta:(tl[f.table.toNat]).attrs.length≤200000000:=htl _ (aaO h3)
    exact Td h6 (by omega))
   refine R.qy (t:=30) (f:=150) (by rfl) 60 (by rfl) rfl rfl rfl (ah (by (simp only [go_sem]))) (.cons (.pd _) .nil) hcon (fun r' m' h=>?_) (fun r' h=>by simp at h) ?_
   ·simp [lk] at h
   rintro res M' ⟨r0,rfl,rfl⟩ hh
   have hrr:w.heap.size≤r0:=by
    rcases hh r0 _ (adA rfl) with h | h
    ·simp at h
    ·exact h.1
   clear hh
   have hperm:(kQ p.table facts).Perm (kQ p.table facts):=.refl _
   rw [aaf]
   simp only [Behind]
   refine aQk ?_
   refine R.eG (by rfl) 60 (by rfl) rfl rfl (ah (by (simp only [go_sem]))) (.cons (.pd _) .nil) (qM r0 (bQ (kQ p.table facts)) (jB (kQ p.table facts)) ((hA _ _ je hperm).zJ hfl)) (fun r' m' h=>?_) (fun r' h=>?_) ?_
   ·simp only [lk] at h
    split at h
    ·rename_i e; subst e; cases h; simp [St.map,St.put,St.set,lk,after,l9]
    ·cases h
   ·simp only [adJ] at h; subst h; exact ⟨by simp [lk],.inl hrr⟩
   rintro res M' (⟨hc,rfl,rfl⟩ | ⟨hc,rfl,rfl⟩) hh <;> clear hh
   ·simp only [Behind]
    refine aQk ?_
    refine R.uY (vc:=True) [(r0,aI (eF (bQ (kQ p.table facts))))] rfl trivial (.inl ⟨r0,_,rfl,rfl,Bv _ _ je hperm hc⟩) (fun r' m' h=>?_)
    simp only [lk] at h
    split at h
    ·rename_i e; subst e; cases h; exact ⟨by simp [St.map,lk,after],.inr hrr⟩
    ·cases h
   ·simp only [Behind]
    exact fun a w E g=>qW (.inr ⟨rfl,rfl,Bz _ _ je hperm hc⟩) g
  | sel hkd q hks hq hsv hl=>
   rw [hks] at hlen Cj
   obtain ⟨⟨r1,m1⟩,rfl⟩:=agj.1 hlen
   have c1:fF facts.length q.attrs.length m1:=by
    have:=Cm 0 (by rw [hks]; simp) (by simp)
    simpa [hks] using this
   have je:bY p facts [m1]=some (m1.flatMap (nH p)):=by unfold bY; rw [adt (by omega),hks]; simp [hkd]
   simp only [ads,adG] at hA Bv Bz OW
   refine R.dA 5 80 mixed (by decide +kernel) ?_; simp only [go_sem]
   refine RY.kW (qJ) rfl rfl (.nil) ?_
   (refine aZ 80 _ _ ?_; simp only [go_sem])
   refine ⟨_,.inl ⟨rfl,.look 139 _ _ false _ _ (key p.kind) 3 138 (.int .i64) (F 151) rfl rfl rfl oN true (by rw [hkd]; exact ⟨rfl,by simp [fB,bV],by simp [fB],1,by simp [fB],rfl,rfl⟩)⟩,ah (by (simp only [go_sem])),?_⟩
   (refine aZ 80 _ _ ?_; simp only [go_sem])
   have hcon:=afh p facts r1 m1 c1.nodup (fun q1 hq1 t ht=>Tt hsv (c1.width q1 hq1) t ht) ((hA _ _ je (.refl _)).ok hat)
   refine R.qy (t:=30) (f:=151) (by rfl) 60 (by rfl) rfl rfl rfl (ah (by (simp only [go_sem]))) (.cons (.pd _) .nil) hcon (fun r' m' h=>?_) (fun r' h=>by simp at h) ?_
   ·simp only [lk] at h
    split at h
    ·rename_i e; subst e; cases h; simp [St.map,St.put,St.set,lk,l9]
    ·cases h
   rintro res M' ⟨r0,L,rfl,rfl,hperm⟩ hh
   have hrr:w.heap.size≤r0:=by
    rcases hh r0 _ (adA rfl) with h | h
    ·simp at h
    ·exact h.1
   clear hh
   simp only [Behind]
   refine aQk ?_
   refine R.eG (by rfl) 60 (by rfl) rfl rfl (ah (by (simp only [go_sem]))) (.cons (.pd _) .nil) (qM r0 (bQ L) (jB L) ((hA _ _ je hperm).zJ hfl)) (fun r' m' h=>?_) (fun r' h=>?_) ?_
   ·simp only [lk] at h
    split at h
    ·rename_i e; subst e; cases h; simp [St.map,St.put,St.set,lk,after,l9]
    ·cases h
   ·simp only [adJ] at h; subst h; exact ⟨by simp [lk],.inl hrr⟩
   rintro res M' (⟨hc,rfl,rfl⟩ | ⟨hc,rfl,rfl⟩) hh <;> clear hh
   ·simp only [Behind]
    refine aQk ?_
    refine R.uY (vc:=True) [(r0,aI (eF (bQ L)))] rfl trivial (.inl ⟨r0,_,rfl,rfl,Bv _ _ je hperm hc⟩) (fun r' m' h=>?_)
    simp only [lk] at h
    split at h
    ·rename_i e; subst e; cases h; exact ⟨by simp [St.map,lk,after],.inr hrr⟩
    ·cases h
   ·simp only [Behind]
    exact fun a w E g=>qW (.inr ⟨rfl,rfl,Bz _ _ je hperm hc⟩) g
  | proj hkd q hks hq hcc hl=>
   rw [hks] at hlen Cj
   obtain ⟨⟨r1,m1⟩,rfl⟩:=agj.1 hlen
   have c1:fF facts.length q.attrs.length m1:=by
    have:=Cm 0 (by rw [hks]; simp) (by simp)
    simpa [hks] using this
   have je:bY p facts [m1]=some (m1.flatMap (qj p)):=by unfold bY; rw [adt (by omega),hks]; simp [hkd]
   simp only [ads,adG] at hA Bv Bz OW
   refine R.dA 5 80 mixed (by decide +kernel) ?_; simp only [go_sem]
   refine RY.kW (qJ) rfl rfl (.nil) ?_
   (refine aZ 80 _ _ ?_; simp only [go_sem])
   refine ⟨_,.inl ⟨rfl,.look 139 _ _ false _ _ (key p.kind) 3 138 (.int .i64) (F 152) rfl rfl rfl oN true (by rw [hkd]; exact ⟨rfl,by simp [fB,bV],by simp [fB],2,by simp [fB],rfl,rfl⟩)⟩,ah (by (simp only [go_sem])),?_⟩
   (refine aZ 80 _ _ ?_; simp only [go_sem])
   have hcon:=UG p facts r1 m1 c1.nodup ((jG p).1 ho).2.1 (fun q1 hq1 c hc=>by rw [c1.width q1 hq1]; exact hcc c hc) ((hA _ _ je (.refl _)).ok hat)
   refine R.qy (t:=30) (f:=152) (by rfl) 60 (by rfl) rfl rfl rfl (ah (by (simp only [go_sem]))) (.cons (.pd _) .nil) hcon (fun r' m' h=>?_) (fun r' h=>by simp at h) ?_
   ·simp only [lk] at h
    split at h
    ·rename_i e; subst e; cases h; simp [St.map,St.put,St.set,lk,l9]
    ·cases h
   rintro res M' ⟨r0,L,rfl,rfl,hperm⟩ hh
   have hrr:w.heap.size≤r0:=by
    rcases hh r0 _ (adA rfl) with h | h
    ·simp at h
    ·exact h.1
   clear hh
   simp only [Behind]
   refine aQk ?_
   refine R.eG (by rfl) 60 (by rfl) rfl rfl (ah (by (simp only [go_sem]))) (.cons (.pd _) .nil) (qM r0 (bQ L) (jB L) ((hA _ _ je hperm).zJ hfl)) (fun r' m' h=>?_) (fun r' h=>?_) ?_
   ·simp only [lk] at h
    split at h
    ·rename_i e; subst e; cases h; simp [St.map,St.put,St.set,lk,after,l9]
    ·cases h
   ·simp only [adJ] at h; subst h; exact ⟨by simp [lk],.inl hrr⟩
   rintro res M' (⟨hc,rfl,rfl⟩ | ⟨hc,rfl,rfl⟩) hh <;> clear hh
   ·simp only [Behind]
    refine aQk ?_
    refine R.uY (vc:=True) [(r0,aI (eF (bQ L)))] rfl trivial (.inl ⟨r0,_,rfl,rfl,Bv _ _ je hperm hc⟩) (fun r' m' h=>?_)
    simp only [lk] at h
    split at h
    ·rename_i e; subst e; cases h; exact ⟨by simp [St.map,lk,after],.inr hrr⟩
    ·cases h
   ·simp only [Behind]
    exact fun a w E g=>qW (.inr ⟨rfl,rfl,Bz _ _ je hperm hc⟩) g
  | join hkd q r hks hq hr hn hj=>
   rw [hks] at hlen Cj
   obtain ⟨⟨r1,m1⟩,⟨r2,m2⟩,rfl⟩:=lM hlen
   have c1:fF facts.length q.attrs.length m1:=by
    have:=Cm 0 (by rw [hks]; simp) (by simp)
    simpa [hks] using this
   have c2:fF facts.length r.attrs.length m2:=by
    have:=Cm 1 (by rw [hks]; simp) (by simp)
    simpa [hks] using this
   have h12:r1≠r2:=by simpa using hnd
   have je:bY p facts [m1,m2]=some (m1.flatMap fun q1=>m2.flatMap (iq q.attrs r.attrs q1)):=by unfold bY; rw [adt (by omega),hks]; simp [hkd]
   simp only [ads,adG] at hA Bv Bz OW
   refine R.dA 5 80 mixed (by decide +kernel) ?_; simp only [go_sem]
   refine RY.kW (qJ) rfl rfl (.nil) ?_
   (refine aZ 80 _ _ ?_; simp only [go_sem])
   refine ⟨_,.inl ⟨rfl,.look 139 _ _ false _ _ (key p.kind) 3 138 (.int .i64) (F 153) rfl rfl rfl oN true (by rw [hkd]; exact ⟨rfl,by simp [fB,bV],by simp [fB],3,by simp [fB],rfl,rfl⟩)⟩,ah (by (simp only [go_sem])),?_⟩
   (refine aZ 80 _ _ ?_; simp only [go_sem])
   have hcon:=acG p q r facts hks r1 r2 m1 m2 h12 c1.nodup c2.nodup (c1.lens hfl) (c2.lens hfl) hn (ai8 q (by rw [hks]; simp)) (ai8 r (by rw [hks]; simp)) c1.width c2.width ((hA _ _ je (.refl _)).ok hat)
   refine R.qy (t:=30) (f:=153) (by rfl) 60 (by rfl) rfl rfl rfl (ah (by (simp only [go_sem]))) (.cons (.pd _) .nil) hcon (fun r' m' h=>?_) (fun r' h=>by simp at h) ?_
   ·have hz:=bW h12
    simp only [lk] at h
    split at h
    ·rename_i e; subst e; cases h; simp [St.map,St.put,St.set,lk,l9,hz]
    ·split at h
     ·rename_i e; subst e; cases h; simp [St.map,St.put,St.set,lk,l9,hz]
     ·cases h
   rintro res M' ⟨r0,L,rfl,rfl,hperm⟩ hh
   have hrr:w.heap.size≤r0:=by
    rcases hh r0 _ (adA rfl) with h | h
    ·simp at h
    ·exact h.1
   clear hh
   simp only [Behind]
   refine aQk ?_
   refine R.eG (by rfl) 60 (by rfl) rfl rfl (ah (by (simp only [go_sem]))) (.cons (.pd _) .nil) (qM r0 (bQ L) (jB L) ((hA _ _ je hperm).zJ hfl)) (fun r' m' h=>?_) (fun r' h=>?_) ?_
   ·simp only [lk] at h
    split at h
    ·rename_i e; subst e; cases h; simp [St.map,St.put,St.set,lk,after,l9]
    ·cases h
   ·simp only [adJ] at h; subst h; exact ⟨by simp [lk],.inl hrr⟩
   rintro res M' (⟨hc,rfl,rfl⟩ | ⟨hc,rfl,rfl⟩) hh <;> clear hh
   ·simp only [Behind]
    refine aQk ?_
    refine R.uY (vc:=True) [(r0,aI (eF (bQ L)))] rfl trivial (.inl ⟨r0,_,rfl,rfl,Bv _ _ je hperm hc⟩) (fun r' m' h=>?_)
    simp only [lk] at h
    split at h
    ·rename_i e; subst e; cases h; exact ⟨by simp [St.map,lk,after],.inr hrr⟩
    ·cases h
   ·simp only [Behind]
    exact fun a w E g=>qW (.inr ⟨rfl,rfl,Bz _ _ je hperm hc⟩) g
  | union hkd q r hks hq hr hl1 hl2=>
   rw [hks] at hlen Cj
   obtain ⟨⟨r1,m1⟩,⟨r2,m2⟩,rfl⟩:=lM hlen
   have c1:fF facts.length q.attrs.length m1:=by
    have:=Cm 0 (by rw [hks]; simp) (by simp)
    simpa [hks] using this
   have c2:fF facts.length r.attrs.length m2:=by
    have:=Cm 1 (by rw [hks]; simp) (by simp)
    simpa [hks] using this
   have h12:r1≠r2:=by simpa using hnd
   have je:bY p facts [m1,m2]=some (gq m1++gq m2):=by unfold bY; rw [adt (by omega),hks]; simp [hkd]
   simp only [ads,adG] at hA Bv Bz OW
   refine R.dA 5 80 mixed (by decide +kernel) ?_; simp only [go_sem]
   refine RY.kW (qJ) rfl rfl (.nil) ?_
   (refine aZ 80 _ _ ?_; simp only [go_sem])
   refine ⟨_,.inl ⟨rfl,.look 139 _ _ false _ _ (key p.kind) 3 138 (.int .i64) (F 154) rfl rfl rfl oN true (by rw [hkd]; exact ⟨rfl,by simp [fB,bV],by simp [fB],4,by simp [fB],rfl,rfl⟩)⟩,ah (by (simp only [go_sem])),?_⟩
   (refine aZ 80 _ _ ?_; simp only [go_sem])
   have hcon:=ZQ p facts r1 r2 m1 m2 h12 c1.nodup c2.nodup ((hA _ _ je (.refl _)).ok hat)
   refine R.qy (t:=30) (f:=154) (by rfl) 60 (by rfl) rfl rfl rfl (ah (by (simp only [go_sem]))) (.cons (.pd _) .nil) hcon (fun r' m' h=>?_) (fun r' h=>by simp at h) ?_
   ·have hz:=bW h12
    simp only [lk] at h
    split at h
    ·rename_i e; subst e; cases h; simp [St.map,St.put,St.set,lk,l9,hz]
    ·split at h
     ·rename_i e; subst e; cases h; simp [St.map,St.put,St.set,lk,l9,hz]
     ·cases h
   rintro res M' ⟨r0,L,rfl,rfl,hperm⟩ hh
   have hrr:w.heap.size≤r0:=by
    rcases hh r0 _ (adA rfl) with h | h
    ·simp at h
    ·exact h.1
   clear hh
   simp only [Behind]
   refine aQk ?_
   refine R.eG (by rfl) 60 (by rfl) rfl rfl (ah (by (simp only [go_sem]))) (.cons (.pd _) .nil) (qM r0 (bQ L) (jB L) ((hA _ _ je hperm).zJ hfl)) (fun r' m' h=>?_) (fun r' h=>?_) ?_
   ·simp only [lk] at h
    split at h
    ·rename_i e; subst e; cases h; simp [St.map,St.put,St.set,lk,after,l9]
    ·cases h
   ·simp only [adJ] at h; subst h; exact ⟨by simp [lk],.inl hrr⟩
   rintro res M' (⟨hc,rfl,rfl⟩ | ⟨hc,rfl,rfl⟩) hh <;> clear hh
   ·simp only [Behind]
    refine aQk ?_
    refine R.uY (vc:=True) [(r0,aI (eF (bQ L)))] rfl trivial (.inl ⟨r0,_,rfl,rfl,Bv _ _ je hperm hc⟩) (fun r' m' h=>?_)
    simp only [lk] at h
    split at h
    ·rename_i e; subst e; cases h; exact ⟨by simp [St.map,lk,after],.inr hrr⟩
    ·cases h
   ·simp only [Behind]
    exact fun a w E g=>qW (.inr ⟨rfl,rfl,Bz _ _ je hperm hc⟩) g
  | minus hkd q r hks hq hr hl1 hl2=>
   rw [hks] at hlen Cj
   obtain ⟨⟨r1,m1⟩,⟨r2,m2⟩,rfl⟩:=lM hlen
   have c1:fF facts.length q.attrs.length m1:=by
    have:=Cm 0 (by rw [hks]; simp) (by simp)
    simpa [hks] using this
   have c2:fF facts.length r.attrs.length m2:=by
    have:=Cm 1 (by rw [hks]; simp) (by simp)
    simpa [hks] using this
   have h12:r1≠r2:=by simpa using hnd
   simp only [ads,adG] at hA Bv Bz OW
   refine R.dA 5 80 mixed (by decide +kernel) ?_; simp only [go_sem]
   refine RY.kW (qJ) rfl rfl (.nil) ?_
   (refine aZ 80 _ _ ?_; simp only [go_sem])
   refine ⟨_,.inl ⟨rfl,.look 139 _ _ false _ _ (key p.kind) 3 138 (.int .i64) (F 155) rfl rfl rfl oN true (by rw [hkd]; exact ⟨rfl,by simp [fB,bV],by simp [fB],5,by simp [fB],rfl,rfl⟩)⟩,ah (by (simp only [go_sem])),?_⟩
   (refine aZ 80 _ _ ?_; simp only [go_sem])
   have hcon:=ZU p facts r1 r2 m1 m2 h12 c1.nodup c2.nodup (c1.lens hfl) (c2.lens hfl) ((LD c1 c2).ok (by rw [← hl1]; exact hat))
   refine R.qy (t:=30) (f:=155) (by rfl) 60 (by rfl) rfl rfl rfl (ah (by (simp only [go_sem]))) (.cons (.pd _) .nil) hcon (fun r' m' h=>?_) (fun r' h=>by simp at h) ?_
   ·have hz:=bW h12
    simp only [lk] at h
    split at h
    ·rename_i e; subst e; cases h; simp [St.map,St.put,St.set,lk,l9,hz]
    ·split at h
     ·rename_i e; subst e; cases h; simp [St.map,St.put,St.set,lk,l9,hz]
     ·cases h
   rintro res M' hQ hh
   split at hQ
   case isFalse hno=>
    obtain ⟨rfl,rfl⟩:=hQ
    simp only [Behind]
    refine fun a w E g=>qW (.inr ⟨rfl,rfl,OW ?_⟩) g
    unfold bY
    rw [adt (by omega),hks]
    simp only
    rw [adt (by omega),adt (by omega),adt (fun h=>hno (by simpa using h))]
   case isTrue hyes=>
   have je:bY p facts [m1,m2]=some (m1.flatMap (jU m2)):=by
    unfold bY
    rw [adt (by omega),hks]
    simp only
    rw [adt (by omega),adt (by omega),adA (by simpa using hyes)]
   obtain ⟨r0,L,rfl,rfl,hperm⟩:=hQ
   have hrr:w.heap.size≤r0:=by
    rcases hh r0 _ (adA rfl) with h | h
    ·simp at h
    ·exact h.1
   clear hh
   simp only [Behind]
   refine aQk ?_
   refine R.eG (by rfl) 60 (by rfl) rfl rfl (ah (by (simp only [go_sem]))) (.cons (.pd _) .nil) (qM r0 (bQ L) (jB L) ((hA _ _ je hperm).zJ hfl)) (fun r' m' h=>?_) (fun r' h=>?_) ?_
   ·simp only [lk] at h
    split at h
    ·rename_i e; subst e; cases h; simp [St.map,St.put,St.set,lk,after,l9]
    ·cases h
   ·simp only [adJ] at h; subst h; exact ⟨by simp [lk],.inl hrr⟩
   rintro res M' (⟨hc,rfl,rfl⟩ | ⟨hc,rfl,rfl⟩) hh <;> clear hh
   ·simp only [Behind]
    refine aQk ?_
    refine R.uY (vc:=True) [(r0,aI (eF (bQ L)))] rfl trivial (.inl ⟨r0,_,rfl,rfl,Bv _ _ je hperm hc⟩) (fun r' m' h=>?_)
    simp only [lk] at h
    split at h
    ·rename_i e; subst e; cases h; exact ⟨by simp [St.map,lk,after],.inr hrr⟩
    ·cases h
   ·simp only [Behind]
    exact fun a w E g=>qW (.inr ⟨rfl,rfl,Bz _ _ je hperm hc⟩) g
  | ren hkd q hks hq hl=>
   rw [hks] at hlen Cj
   obtain ⟨⟨r1,m1⟩,rfl⟩:=agj.1 hlen
   have c1:fF facts.length q.attrs.length m1:=by
    have:=Cm 0 (by rw [hks]; simp) (by simp)
    simpa [hks] using this
   have je:bY p facts [m1]=some (gq m1):=by unfold bY; rw [adt (by omega),hks]; simp [hkd]
   simp only [ads,adG] at hA Bv Bz OW
   have hperm:(gq m1).Perm (gq m1):=.refl _
   have hself:=ZY c1
   have hrr:w.heap.size≤r1:=hge (r1,m1) (by simp)
   refine R.dA 5 80 mixed (by decide +kernel) ?_; simp only [go_sem]
   refine RY.kW (qJ) rfl rfl (.nil) ?_
   (refine aZ 80 _ _ ?_; simp only [go_sem])
   refine ⟨_,.inl ⟨rfl,.look 139 _ _ false _ _ (key p.kind) 3 138 (.int .i64) (F 156) rfl rfl rfl oN true (by rw [hkd]; exact ⟨rfl,by simp [fB,bV],by simp [fB],6,by simp [fB],rfl,rfl⟩)⟩,ah (by (simp only [go_sem])),?_⟩
   (refine aZ 80 _ _ ?_; simp only [go_sem])
   have hcon:=(Xy p facts r1 []).toM
   refine R.qy (t:=30) (f:=156) (by rfl) 60 (by rfl) rfl rfl rfl (ah (by (simp only [go_sem]))) (.cons (.pd _) .nil) hcon (fun r' m' h=>?_) (fun r' h=>by simp at h) ?_
   ·simp [lk] at h
   rintro res M' ⟨rfl,rfl⟩ hh; clear hh
   simp only [Behind]
   refine aQk ?_
   refine R.eG (by rfl) 60 (by rfl) rfl rfl (ah (by (simp only [go_sem]))) (.cons (.pd _) .nil) (qM r1 (bQ (gq m1)) (jB (gq m1)) ((hA _ _ je hperm).zJ hfl)) (fun r' m' h=>?_) (fun r' h=>?_) ?_
   ·simp only [lk] at h
    split at h
    ·rename_i e; subst e; rw [hself] at h; cases h; simp [St.map,St.put,St.set,lk,after,l9]
    ·cases h
   ·simp only [adJ] at h; subst h; exact ⟨by simp [lk],.inl hrr⟩
   rintro res M' (⟨hc,rfl,rfl⟩ | ⟨hc,rfl,rfl⟩) hh <;> clear hh
   ·simp only [Behind]
    refine aQk ?_
    refine R.uY (vc:=True) [(r1,aI (eF (bQ (gq m1))))] rfl trivial (.inl ⟨r1,_,rfl,rfl,Bv _ _ je hperm hc⟩) (fun r' m' h=>?_)
    simp only [lk] at h
    split at h
    ·rename_i e; subst e; cases h; exact ⟨by simp [St.map,lk,after],.inr hrr⟩
    ·cases h
   ·simp only [Behind]
    exact fun a w E g=>qW (.inr ⟨rfl,rfl,Bz _ _ je hperm hc⟩) g
end Go.Proofs.Z
