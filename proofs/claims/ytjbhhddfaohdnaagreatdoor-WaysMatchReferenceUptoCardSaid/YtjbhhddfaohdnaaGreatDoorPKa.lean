/- A part of the proof. -/
import Derived.Test.YtjbhhddfaohdnaaGreatDoorPRv
set_option linter.all false
set_option linter.deprecated false
namespace Go.Proofs.Z
open Go Go.au Go.Proofs
set_option maxRecDepth 10000
set_option maxHeartbeats 4000000
theorem aji:aG Tryz.prog 42:=fun _ _=>by kernel_rfl
theorem Yq (t:Int) (facts:List cZ):qH t facts facts.length=bg (kQ t facts):=by
 have:∀ (l:List (cZ × Nat)) (m:AM),l.foldl (Iq t) m=(l.flatMap fun q=>if q.1.table=t then [(q.1.row,[(⟨[(q.2:Int)],[]⟩:W)])] else []).foldl (fun m x=>iK (rowB x.1) x.1 x.2 m) m:=by
  intro l
  induction l with
  | nil=>intro m; rfl
  | cons q l ih=>
   intro m
   rw [List.foldl_cons,akg,apM,ih]
   congr 1
   unfold Iq
   split <;> rfl
 unfold qH
 rw [abT (agM _)]
 exact this _ _
abbrev wR (p:Plan):List SV:=[.pd (I p.kind),.pd (I p.table),.pd (plans p.kids),.pd (qp p.tests),.pd (ints p.cols),.pd (I p.col),.pd (I p.agg),.pd (attrs p.attrs)]
abbrev kR (p:Plan):PD:=.ak [I p.kind,I p.table,plans p.kids,qp p.tests,ints p.cols,I p.col,I p.agg,attrs p.attrs]
theorem Qb {p q:Plan} (h:AA p q=true) {row:List V} (hl:row.length=q.attrs.length) (t:vK) (ht:t∈p.tests):nX row t.left∧nX row t.right:=by
 unfold AA at h
 simp only [aj0,aoy,anM] at h
 have h1:=h.2 t ht
 have h1:jS t q.attrs.length=true:=by simpa using h1
 unfold jS at h1
 simp only [aj0] at h1
 have hs:∀ s:Side,lZ s q.attrs.length=true→nX row s:=by
  intro s hs
  unfold lZ at hs
  split at hs
  ·exact .inl (by assumption)
  ·simp only [aj0,ame] at hs
   exact .inr ⟨hs.1.1.2,by omega⟩
 exact ⟨hs _ h1.1.1.2,hs _ h1.1.2⟩
def rD (q:Nat × AM):Nat × dW:=(q.1,.map (aK q.2))
def dR (facts:List cZ) (n:Nat) (p:Plan) (res:jC) (M':Maps):Prop:=(∃ r m,res = .ret [mref r]∧M'=[(r,aK m)]∧Ae facts n p m)∨(res = .xK XA∧M'=[]∧MG facts n p)
theorem D5 {n:Nat} {sl:List (Nat × SV)} {vs:List (Nat × List SV)} {rs:List (Nat × Row)} {mm:List (Nat × dW)} {gs:List (Nat × SV)} (h:(mm.map (·.1)).Nodup):Ei ⟨n,sl,vs,rs,mm,gs⟩ mm:=Qa fun p hp=>IC h p hp
theorem zI {n:Nat} {sl:List (Nat × SV)} {vs:List (Nat × List SV)} {rs:List (Nat × Row)} {mm:List (Nat × dW)} {gs:List (Nat × SV)} {r:Nat} {o:dW} (h:(mm.map (·.1)).Nodup) (hr:r∉mm.map (·.1)):Ei ⟨n,sl,vs,rs,(r,o)::mm,gs⟩ mm:=
 Qa fun p hp=>by
  simp only [St.map,lk]
  rw [abQ (fun e=>hr (acE.2 ⟨p,hp,e.symm⟩))]
  exact IC h p hp
theorem Yr (o:dW):o.wrote []=o:=by cases o <;> simp [dW.wrote]
theorem Yt (M':Maps) (ms:List (Nat × dW)):after [] M' ms=(M'.map fun p=>(p.1,.map p.2))++ms:=by
 unfold after
 congr 1
 simp [Yr]
def nZ (p q:Plan) (facts:List cZ) (k:Nat) (x:List (Nat × SV)) (r:List PD) (mm:List (Nat × dW)):St:=
 ⟨34,(14,.pd (I k))::(1,.pd (dh facts))::(2,.aJ 2 0)::(4,.pd (.raw (.map none)))::(5,.aJ 5 0)::(7,.aJ 7 0)::(12,.pd (plans p.kids))::(13,.pd (I p.kids.length))::x,[(2,wR p),(5,wR p++[.pd (dh facts),.own 5005]),(7,wR q)],[(5005,⟨95,1,r⟩)],mm,[]⟩
attribute [go_sem] nZ
def T42 (p q:Plan) (facts:List cZ) (k:Nat) (X:List PD) (mm:List (Nat × dW)) (x:Nat × AM):Nat→St
 | 0=>nZ p q facts k [] (X) (mm)
 | 1=>nZ p q facts k [(18,.aJ 5 9)] (X) (mm)
 | 3=>nZ p q facts k [(18,.aJ 5 9),(19,.own 5005)] (X) (mm)
 | 4=>nZ p q facts k [(20,.pd (kR q))] (X) (mm)
 | 5=>nZ p q facts k [(18,.aJ 5 9),(20,.pd (kR q))] (X) (mm)
 | 7=>nZ p q facts k [(18,.aJ 5 9),(19,.own 5005),(20,.pd (kR q))] (X) (mm)
 | 8=>nZ p q facts k [(21,.pd (dh facts))] (X) (mm)
 | 9=>nZ p q facts k [(18,.aJ 5 9),(21,.pd (dh facts))] (X) (mm)
 | 11=>nZ p q facts k [(18,.aJ 5 9),(19,.own 5005),(21,.pd (dh facts))] (X) (mm)
 | 12=>nZ p q facts k [(20,.pd (kR q)),(21,.pd (dh facts))] (X) (mm)
 | 13=>nZ p q facts k [(18,.aJ 5 9),(20,.pd (kR q)),(21,.pd (dh facts))] (X) (mm)
 | 15=>nZ p q facts k [(18,.aJ 5 9),(19,.own 5005),(20,.pd (kR q)),(21,.pd (dh facts))] (X) (mm)
 | 28=>nZ p q facts k [(20,.pd (kR q)),(21,.pd (dh facts)),(22,.pd (mref x.1))] (X) ((x.1,.map (aK x.2))::mm)
 | 29=>nZ p q facts k [(18,.aJ 5 9),(20,.pd (kR q)),(21,.pd (dh facts)),(22,.pd (mref x.1))] (X) ((x.1,.map (aK x.2))::mm)
 | 31=>nZ p q facts k [(18,.aJ 5 9),(19,.own 5005),(20,.pd (kR q)),(21,.pd (dh facts)),(22,.pd (mref x.1))] (X) ((x.1,.map (aK x.2))::mm)
 | 60=>nZ p q facts k [(20,.pd (kR q)),(21,.pd (dh facts)),(22,.pd (mref x.1)),(23,.pd (.list 1 [mref x.1]))] (X) ((x.1,.map (aK x.2))::mm)
 | 61=>nZ p q facts k [(18,.aJ 5 9),(20,.pd (kR q)),(21,.pd (dh facts)),(22,.pd (mref x.1)),(23,.pd (.list 1 [mref x.1]))] (X) ((x.1,.map (aK x.2))::mm)
 | 63=>nZ p q facts k [(18,.aJ 5 9),(19,.own 5005),(20,.pd (kR q)),(21,.pd (dh facts)),(22,.pd (mref x.1)),(23,.pd (.list 1 [mref x.1]))] (X) ((x.1,.map (aK x.2))::mm)
 | 127=>⟨34,[(14,.pd (I k)),(1,.pd (dh facts)),(2,.aJ 2 0),(4,.pd (.raw (.map none))),(5,.aJ 5 0),(7,.aJ 7 0),(12,.pd (plans p.kids)),(13,.pd (I p.kids.length)),(18,.aJ 5 9),(20,.pd (kR q)),(21,.pd (dh facts)),(22,.pd (mref x.1)),(23,.pd (.list 1 [mref x.1])),(24,.own 5005)],[(2,wR p),(5,wR p++[.pd (dh facts),.dead]),(7,wR q)],[(5005,⟨95,1,X++[mref x.1]⟩)],(x.1,.map (aK x.2))::mm,[]⟩
 | 255=>⟨34,[(14,.pd (I k)),(1,.pd (dh facts)),(2,.aJ 2 0),(4,.pd (.raw (.map none))),(5,.aJ 5 0),(7,.aJ 7 0),(12,.pd (plans p.kids)),(13,.pd (I p.kids.length)),(18,.aJ 5 9),(20,.pd (kR q)),(21,.pd (dh facts)),(22,.pd (mref x.1)),(23,.pd (.list 1 [mref x.1])),(24,.own 5005),(25,.aJ 5 9)],[(2,wR p),(5,wR p++[.pd (dh facts),.dead]),(7,wR q)],[(5005,⟨95,1,X++[mref x.1]⟩)],(x.1,.map (aK x.2))::mm,[]⟩
 | 511=>nZ p q facts k [(18,.aJ 5 9),(20,.pd (kR q)),(21,.pd (dh facts)),(22,.pd (mref x.1)),(23,.pd (.list 1 [mref x.1])),(24,.own 5005),(25,.aJ 5 9)] (X++[mref x.1]) ((x.1,.map (aK x.2))::mm)
 | _=>⟨0,[],[],[],[],[]⟩
def agr:List (Nat × Nat):=[(0,0),(0,2),(0,3),(1,1),(1,2),(1,3),(4,0),(4,3),(8,0),(8,2),(3,2),(3,3),(5,1),(5,3),(9,1),(9,2),(12,0),(12,4),(7,3),(11,2),(13,1),(13,4),(28,0),(28,5),(15,4),(29,1),(29,5),(60,0),(31,5),(61,1),(63,6),(127,7),(255,8)]
theorem NM {tl:List bJ} {facts:List cZ} (hf:jZ tl facts) (htl:∀ t∈tl,t.attrs.length≤200000000) (n:Nat) (p:Plan) (ho:ni p) (ags:∀ q∈p.kids,q.attrs.length≤100000000) (hs:Shape tl n p) (ih:∀ q∈p.kids,fH Tryz.prog 42 [.pd (plan q),.pd (dh facts)] [] [] (dR facts n q)) (U4:∀ q∈p.kids,∀ m,Ae facts n q m→ig facts.length q.attrs.length m):
  fH Tryz.prog 42 [.pd (plan p),.pd (dh facts)] [] [] (dR facts (n+1) p):=by
 rw [aF p]
 refine fH.mk Tryz.func42 rfl aji (by simp [Tryz.ntmps42]) fun w G=>?_
 refine aMD ?_
 refine R.agq 5 9 5005 95 1 rfl rfl (by simp) rfl ?_
 simp only [go_sem]
 refine R.vW (fun (x:List (Nat × AM)) s=>{ St.lp [1,2,4,5,12,13,27,28,29,30,31,32,33] [(14,.pd (I x.length))] [2] [(5,wR p++[.pd (dh facts),.own 5005])] [] [(5005,⟨95,1,x.map fun q=>mref q.1⟩)] s with maps:=x.reverse.map rD }) (fun (x:List (Nat × AM))=>x.length≤p.kids.length∧(x.map (·.1)).Nodup∧(∀ q∈x,w.heap.size≤q.1)∧∀ i (h:i<p.kids.length) (h2:i<x.length),Ae facts n p.kids[i] x[i].2) (fun (x:List (Nat × AM))=>p.kids.length - x.length) ([]) (⟨by simp,by simp,by simp,by simp⟩) (by (simp only [go_sem,List.reverse_nil]); all_goals (and_intros <;> first | rfl | simp)) ?_
 rintro x ⟨hk,hnd,hge,hev⟩
 refine aMF ?_
 refine ⟨fun h=>?_,fun h=>?_⟩
 ·have hlt:x.length<p.kids.length:=by simpa using h
  have hnm:((x.reverse.map rD).map (·.1)).Nodup:=by
   have:(x.reverse.map rD).map (·.1)=(x.map (·.1)).reverse:=by simp [rD,Function.comp_def]
   rw [this]; exact List.pairwise_reverse.2 (hnd.imp fun h=>anj h)
  have hkl:=((gB p).1 ho).2.2.2.1
  apply aC; simp only [go_sem,getD_map,hlt,aF p.kids[x.length]]
  repeat refine ⟨by omega,?_⟩
  have ihq:=ih p.kids[x.length] (ab5 hlt)
  rw [aF] at ihq
  have acr:MG facts n p.kids[x.length]→MG facts (n+1) p:=fun h=>.inl ⟨x.length,hlt,h⟩
  have hX:(x.map fun q=>mref q.1).length≤100000000:=by simp; omega
  generalize hq:p.kids[x.length]=q at ihq acr
  generalize hXX:(x.map fun q=>mref q.1)=X at hX
  generalize hmm:x.reverse.map rD=mm at hnm
  refine R.to (T42 p q facts x.length X mm (0,[]) 0) (by simp only [T42.eq_1]; (simp only [go_sem]); all_goals first | (and_intros <;> first | rfl | exact D5 hnm) | exact D5 hnm) ?_
  refine R.ajg (T42 p q facts x.length X mm) (fun y m=>m.testBit 4=true→y.1∉mm.map (·.1)∧w.heap.size≤y.1∧Ae facts n q y.2) agr 511 mixed (by kernel_rfl) (by kernel_rfl) (by kernel_rfl) (0,[]) (fun h=>absurd h (by decide)) (fun h=>h) ?_ ?_
  ·unfold agr
   repeat' (refine akn.2 ⟨?_,?_⟩)
   all_goals first
    | exact arv _
    | (intro y0 hx
       simp only [T42,Nat.reduceOr,Nat.reducePow]
       refine aMD ?_
       try refine R.aY (r:=⟨95,1,X⟩) (d:=mref y0.1) 1000000000 8 rfl rfl (by (simp only [go_sem])) rfl rfl rfl rfl abI rfl ad5 (by simp) (congrArg (Option.map List.length) ad7) rfl ad6 (by simp; omega) (by decide) (by decide) ?_
       refine aMD ?_
       exact R.oD ⟨y0,(fun h=>by first | exact absurd h (by decide) | exact hx (by decide)),rfl⟩ (by (simp only [go_sem]); first | (done) | (refine ⟨?_,?_⟩ <;> first | rfl | exact D5 hnm | exact zI hnm (hx (by decide)).1) | exact D5 hnm | exact zI hnm (hx (by decide)).1))
    | (intro y0 hx
       simp only [T42,Nat.reduceOr,Nat.reducePow]
       refine aMD ?_
       refine R.fK (by rfl) 77 (by rfl) rfl rfl (aj (by (simp only [go_sem]))) (.cons (.pd _) (.cons (.pd _) .nil)) ihq (fun r' m' h=>by simp [lk] at h) (fun r' h=>by simp at h) ?_
       rintro res M' (⟨r,m,rfl,rfl,hev2⟩ | ⟨rfl,rfl,hx2⟩) hh
       ·rcases hh r (aK m) (by simp [lk]) with h | ⟨h1,h2⟩
        ·simp at h
        have hr:=Ti h2
        simp only [Behind,Yt,acn,adR,List.cons_append,List.nil_append]
        refine aMD ?_
        exact R.oD ⟨(r,m),(fun _=>⟨hr,h1,hev2⟩),rfl⟩ (by (simp only [go_sem]); first | (done) | (refine ⟨?_,?_⟩ <;> first | rfl | exact zI hnm hr) | exact zI hnm hr)
       ·simp only [Behind]
        exact fun a w E g=>qU (.inr ⟨rfl,rfl,acr hx2⟩) g)
  ·intro y hy
   obtain ⟨hy1,hy2,hy3⟩:=hy (by decide)
   simp only [T42.eq_21]
   subst hXX; subst hmm; subst hq
   have ajj:y.1∉x.map (·.1):=fun hin=>hy1 (by
    obtain ⟨q,hq,e⟩:=acE.1 hin
    exact acE.2 ⟨rD q,acE.2 ⟨q,by simpa using hq,rfl⟩,e⟩)
   apply ev8; simp only [go_sem,wrapN (k:=x.length) (by omega)]
   refine R.jm (x++[y]) ⟨by simp; omega,by rw [acC]; exact amJ.2 ⟨hnd,by simp,fun a ha b hb e=>by simp at hb; subst hb; subst e; exact ajj ha⟩,fun q hq=>?_,fun i hi hi2=>?_⟩ (by show _<_; simp; omega) ?_
   ·rcases aj8.1 hq with h | h
    ·exact hge q h
    ·rw [adJ.1 h]; exact hy2
   ·by_cases e:i<x.length
    ·have:(x++[y])[i]=x[i]:=aps e
     rw [this]; exact hev i hi e
    ·have e2:i=x.length:=by simp at hi2; omega
     subst e2
     simp only [List.getElem_append_right (agM _),Nat.sub_self,List.getElem_cons_zero]
     exact hy3
   ·simp only [go_sem,agU,acC,List.reverse_append,List.reverse_cons,List.reverse_nil]
    exact ⟨by simp [rD],zI hnm hy1⟩
 ·have hlen:x.length=p.kids.length:=by
   have h':¬ x.length<p.kids.length:=(by simpa using h)
   omega
  have hat:p.attrs.length≤200000000:=by have:=((gB p).1 ho).1; omega
  have hfl:facts.length≤1000000:=by have:=hf.1; omega
  have hs0:=hs
  have AZ:(x.map (·.2)).length=p.kids.length:=by simpa using hlen
  have U5:∀ i (h:i<p.kids.length) (h2:i<(x.map (·.2)).length),Ae facts n p.kids[i] (x.map (·.2))[i]:=fun i h h2=>by
   simp only [anW]; exact hev i h (by simpa using h2)
  have A8:∀ i (h:i<p.kids.length) (h2:i<(x.map (·.2)).length),ig facts.length p.kids[i].attrs.length (x.map (·.2))[i]:=fun i h h2=>U4 _ (ab5 h) _ (U5 i h h2)
  have hA:∀ L0 L,bZ p facts (x.map (·.2))=some L0→L.Perm L0→Adds facts.length p.attrs.length L:=fun L0 L h hp=>(wF hf hs0 AZ A8 h).perm hp.symm
  have Ai:∀ L0 L,bZ p facts (x.map (·.2))=some L0→L.Perm L0→iL (bg L)→Ae facts (n+1) p (dB (bg L)):=fun L0 L h hp hc=>⟨_,AZ,U5,L0,L,h,hp,hc,rfl⟩
  have Aj:∀ L0 L,bZ p facts (x.map (·.2))=some L0→L.Perm L0→¬ iL (bg L)→MG facts (n+1) p:=fun L0 L h hp hc=>.inr ⟨_,AZ,U5,.inr ⟨L0,L,h,hp,hc⟩⟩
  have MS:bZ p facts (x.map (·.2))=none→MG facts (n+1) p:=fun h=>.inr ⟨_,AZ,U5,.inl h⟩
  clear hev
  refine aMD ?_
  refine R.bP 5005 rfl rfl ?_
  simp only [go_sem]
  cases hs with
  | table hkd hks h0 h1 hl=>
   rw [hks] at hlen
   obtain rfl:x=[]:=aks.1 (by simpa using hlen)
   have ji:bZ p facts ([]:List AM)=some (kQ p.table facts):=by unfold bZ; rw [ab8 hkd]
   simp only [adR] at hA Ai Aj MS
   refine R.aO 5 80 mixed (by decide +kernel) ?_; simp only [go_sem]
   refine RY.kW (qG) rfl rfl (.nil) ?_
   (refine aH 80 _ _ ?_; simp only [go_sem])
   refine ⟨_,.inl ⟨rfl,.look 139 _ _ false _ _ (key p.kind) 3 138 (.int .i64) (F 150) rfl rfl rfl oH true (by rw [hkd]; exact ⟨rfl,by simp [eG,bY],by simp [eG],0,by simp [eG],rfl,rfl⟩)⟩,aj (by (simp only [go_sem])),?_⟩
   (refine aH 80 _ _ ?_; simp only [go_sem])
   have hcon:=X7 p facts [] (by have:=hf.1; omega) (fun f hfm=>by
    obtain ⟨_,h3,h4⟩:=hf.2 f hfm
    obtain ⟨h5,h6⟩:=JL h4
    have hta:(tl[f.table.toNat]).attrs.length≤200000000:=htl _ (ab5 h3)
    exact PZ h6 (by omega))
   refine R.ql (t:=30) (f:=150) (by rfl) 60 (by rfl) rfl rfl rfl (aj (by (simp only [go_sem]))) (.cons (.pd _) .nil) hcon (fun r' m' h=>?_) (fun r' h=>by simp at h) ?_
   ·simp [lk] at h
   rintro res M' ⟨r0,rfl,rfl⟩ hh
   have hrr:w.heap.size≤r0:=by
    rcases hh r0 _ (ab8 rfl) with h | h
    ·simp at h
    ·exact h.1
   clear hh
   have hperm:(kQ p.table facts).Perm (kQ p.table facts):=.refl _
   rw [Yq]
   simp only [Behind]
   refine aMD ?_
   refine R.fK (by rfl) 60 (by rfl) rfl rfl (aj (by (simp only [go_sem]))) (.cons (.pd _) .nil) (qJ r0 (bg (kQ p.table facts)) (gZ (kQ p.table facts)) ((hA _ _ ji hperm).vN hfl)) (fun r' m' h=>?_) (fun r' h=>?_) ?_
   ·simp only [lk] at h
    split at h
    ·rename_i e; subst e; cases h; simp [St.map,lk]
    ·cases h
   ·simp only [adJ] at h; subst h; exact ⟨by simp [lk],.inl hrr⟩
   rintro res M' (⟨hc,rfl,rfl⟩ | ⟨hc,rfl,rfl⟩) hh <;> clear hh
   ·simp only [Behind]
    refine aMD ?_
    refine R.uw (vc:=True) [(r0,aK (dB (bg (kQ p.table facts))))] rfl trivial (.inl ⟨r0,_,rfl,rfl,Ai _ _ ji hperm hc⟩) (fun r' m' h=>?_)
    simp only [lk] at h
    split at h
    ·rename_i e; subst e; cases h; exact ⟨by simp [St.map,lk],.inr hrr⟩
    ·cases h
   ·simp only [Behind]
    exact fun a w E g=>qU (.inr ⟨rfl,rfl,Aj _ _ ji hperm hc⟩) g
  | sel hkd q hks hq hsv hl=>
   rw [hks] at hlen AZ
   obtain ⟨⟨r1,m1⟩,rfl⟩:=ajV.1 hlen
   have c1:ig facts.length q.attrs.length m1:=by
    have:=A8 0 (by rw [hks]; simp) (by simp)
    simpa [hks] using this
   have ji:bZ p facts [m1]=some (m1.flatMap (oK p)):=by unfold bZ; rw [abQ (by omega),hks]; simp [hkd]
   simp only [acn,adR] at hA Ai Aj MS
   refine R.aO 5 80 mixed (by decide +kernel) ?_; simp only [go_sem]
   refine RY.kW (qG) rfl rfl (.nil) ?_
   (refine aH 80 _ _ ?_; simp only [go_sem])
   refine ⟨_,.inl ⟨rfl,.look 139 _ _ false _ _ (key p.kind) 3 138 (.int .i64) (F 151) rfl rfl rfl oH true (by rw [hkd]; exact ⟨rfl,by simp [eG,bY],by simp [eG],1,by simp [eG],rfl,rfl⟩)⟩,aj (by (simp only [go_sem])),?_⟩
   (refine aH 80 _ _ ?_; simp only [go_sem])
   have hcon:=adv p facts r1 m1 c1.nodup (fun q1 hq1 t ht=>Qb hsv (c1.width q1 hq1) t ht) ((hA _ _ ji (.refl _)).ok hat)
   refine R.ql (t:=30) (f:=151) (by rfl) 60 (by rfl) rfl rfl rfl (aj (by (simp only [go_sem]))) (.cons (.pd _) .nil) hcon (fun r' m' h=>?_) (fun r' h=>by simp at h) ?_
   ·simp only [lk] at h
    split at h
    ·rename_i e; subst e; cases h; simp [St.map,lk,rD]
    ·cases h
   rintro res M' ⟨r0,L,rfl,rfl,hperm⟩ hh
   have hrr:w.heap.size≤r0:=by
    rcases hh r0 _ (ab8 rfl) with h | h
    ·simp at h
    ·exact h.1
   clear hh
   simp only [Behind]
   refine aMD ?_
   refine R.fK (by rfl) 60 (by rfl) rfl rfl (aj (by (simp only [go_sem]))) (.cons (.pd _) .nil) (qJ r0 (bg L) (gZ L) ((hA _ _ ji hperm).vN hfl)) (fun r' m' h=>?_) (fun r' h=>?_) ?_
   ·simp only [lk] at h
    split at h
    ·rename_i e; subst e; cases h; simp [St.map,lk]
    ·cases h
   ·simp only [adJ] at h; subst h; exact ⟨by simp [lk],.inl hrr⟩
   rintro res M' (⟨hc,rfl,rfl⟩ | ⟨hc,rfl,rfl⟩) hh <;> clear hh
   ·simp only [Behind]
    refine aMD ?_
    refine R.uw (vc:=True) [(r0,aK (dB (bg L)))] rfl trivial (.inl ⟨r0,_,rfl,rfl,Ai _ _ ji hperm hc⟩) (fun r' m' h=>?_)
    simp only [lk] at h
    split at h
    ·rename_i e; subst e; cases h; exact ⟨by simp [St.map,lk],.inr hrr⟩
    ·cases h
   ·simp only [Behind]
    exact fun a w E g=>qU (.inr ⟨rfl,rfl,Aj _ _ ji hperm hc⟩) g
  | proj hkd q hks hq hcc hl=>
   rw [hks] at hlen AZ
   obtain ⟨⟨r1,m1⟩,rfl⟩:=ajV.1 hlen
   have c1:ig facts.length q.attrs.length m1:=by
    have:=A8 0 (by rw [hks]; simp) (by simp)
    simpa [hks] using this
   have ji:bZ p facts [m1]=some (m1.flatMap (qW p)):=by unfold bZ; rw [abQ (by omega),hks]; simp [hkd]
   simp only [acn,adR] at hA Ai Aj MS
   refine R.aO 5 80 mixed (by decide +kernel) ?_; simp only [go_sem]
   refine RY.kW (qG) rfl rfl (.nil) ?_
   (refine aH 80 _ _ ?_; simp only [go_sem])
   refine ⟨_,.inl ⟨rfl,.look 139 _ _ false _ _ (key p.kind) 3 138 (.int .i64) (F 152) rfl rfl rfl oH true (by rw [hkd]; exact ⟨rfl,by simp [eG,bY],by simp [eG],2,by simp [eG],rfl,rfl⟩)⟩,aj (by (simp only [go_sem])),?_⟩
   (refine aH 80 _ _ ?_; simp only [go_sem])
   have hcon:=QN p facts r1 m1 c1.nodup ((gB p).1 ho).2.1 (fun q1 hq1 c hc=>by rw [c1.width q1 hq1]; exact hcc c hc) ((hA _ _ ji (.refl _)).ok hat)
   refine R.ql (t:=30) (f:=152) (by rfl) 60 (by rfl) rfl rfl rfl (aj (by (simp only [go_sem]))) (.cons (.pd _) .nil) hcon (fun r' m' h=>?_) (fun r' h=>by simp at h) ?_
   ·simp only [lk] at h
    split at h
    ·rename_i e; subst e; cases h; simp [St.map,lk,rD]
    ·cases h
   rintro res M' ⟨r0,L,rfl,rfl,hperm⟩ hh
   have hrr:w.heap.size≤r0:=by
    rcases hh r0 _ (ab8 rfl) with h | h
    ·simp at h
    ·exact h.1
   clear hh
   simp only [Behind]
   refine aMD ?_
   refine R.fK (by rfl) 60 (by rfl) rfl rfl (aj (by (simp only [go_sem]))) (.cons (.pd _) .nil) (qJ r0 (bg L) (gZ L) ((hA _ _ ji hperm).vN hfl)) (fun r' m' h=>?_) (fun r' h=>?_) ?_
   ·simp only [lk] at h
    split at h
    ·rename_i e; subst e; cases h; simp [St.map,lk]
    ·cases h
   ·simp only [adJ] at h; subst h; exact ⟨by simp [lk],.inl hrr⟩
   rintro res M' (⟨hc,rfl,rfl⟩ | ⟨hc,rfl,rfl⟩) hh <;> clear hh
   ·simp only [Behind]
    refine aMD ?_
    refine R.uw (vc:=True) [(r0,aK (dB (bg L)))] rfl trivial (.inl ⟨r0,_,rfl,rfl,Ai _ _ ji hperm hc⟩) (fun r' m' h=>?_)
    simp only [lk] at h
    split at h
    ·rename_i e; subst e; cases h; exact ⟨by simp [St.map,lk],.inr hrr⟩
    ·cases h
   ·simp only [Behind]
    exact fun a w E g=>qU (.inr ⟨rfl,rfl,Aj _ _ ji hperm hc⟩) g
  | join hkd q r hks hq hr hn hj=>
   rw [hks] at hlen AZ
   obtain ⟨⟨r1,m1⟩,⟨r2,m2⟩,rfl⟩:=jW hlen
   have c1:ig facts.length q.attrs.length m1:=by
    have:=A8 0 (by rw [hks]; simp) (by simp)
    simpa [hks] using this
   have c2:ig facts.length r.attrs.length m2:=by
    have:=A8 1 (by rw [hks]; simp) (by simp)
    simpa [hks] using this
   have h12:r1≠r2:=by simpa using hnd
   have ji:bZ p facts [m1,m2]=some (m1.flatMap fun q1=>m2.flatMap (iM q.attrs r.attrs q1)):=by unfold bZ; rw [abQ (by omega),hks]; simp [hkd]
   simp only [acn,adR] at hA Ai Aj MS
   refine R.aO 5 80 mixed (by decide +kernel) ?_; simp only [go_sem]
   refine RY.kW (qG) rfl rfl (.nil) ?_
   (refine aH 80 _ _ ?_; simp only [go_sem])
   refine ⟨_,.inl ⟨rfl,.look 139 _ _ false _ _ (key p.kind) 3 138 (.int .i64) (F 153) rfl rfl rfl oH true (by rw [hkd]; exact ⟨rfl,by simp [eG,bY],by simp [eG],3,by simp [eG],rfl,rfl⟩)⟩,aj (by (simp only [go_sem])),?_⟩
   (refine aH 80 _ _ ?_; simp only [go_sem])
   have hcon:=aaH p q r facts hks r1 r2 m1 m2 h12 c1.nodup c2.nodup (c1.lens hfl) (c2.lens hfl) hn (ags q (by rw [hks]; simp)) (ags r (by rw [hks]; simp)) c1.width c2.width ((hA _ _ ji (.refl _)).ok hat)
   refine R.ql (t:=30) (f:=153) (by rfl) 60 (by rfl) rfl rfl rfl (aj (by (simp only [go_sem]))) (.cons (.pd _) .nil) hcon (fun r' m' h=>?_) (fun r' h=>by simp at h) ?_
   ·have hz:=bU h12
    simp only [lk] at h
    split at h
    ·rename_i e; subst e; cases h; simp [St.map,lk,rD,hz]
    ·split at h
     ·rename_i e; subst e; cases h; simp [St.map,lk,rD]
     ·cases h
   rintro res M' ⟨r0,L,rfl,rfl,hperm⟩ hh
   have hrr:w.heap.size≤r0:=by
    rcases hh r0 _ (ab8 rfl) with h | h
    ·simp at h
    ·exact h.1
   clear hh
   simp only [Behind]
   refine aMD ?_
   refine R.fK (by rfl) 60 (by rfl) rfl rfl (aj (by (simp only [go_sem]))) (.cons (.pd _) .nil) (qJ r0 (bg L) (gZ L) ((hA _ _ ji hperm).vN hfl)) (fun r' m' h=>?_) (fun r' h=>?_) ?_
   ·simp only [lk] at h
    split at h
    ·rename_i e; subst e; cases h; simp [St.map,lk]
    ·cases h
   ·simp only [adJ] at h; subst h; exact ⟨by simp [lk],.inl hrr⟩
   rintro res M' (⟨hc,rfl,rfl⟩ | ⟨hc,rfl,rfl⟩) hh <;> clear hh
   ·simp only [Behind]
    refine aMD ?_
    refine R.uw (vc:=True) [(r0,aK (dB (bg L)))] rfl trivial (.inl ⟨r0,_,rfl,rfl,Ai _ _ ji hperm hc⟩) (fun r' m' h=>?_)
    simp only [lk] at h
    split at h
    ·rename_i e; subst e; cases h; exact ⟨by simp [St.map,lk],.inr hrr⟩
    ·cases h
   ·simp only [Behind]
    exact fun a w E g=>qU (.inr ⟨rfl,rfl,Aj _ _ ji hperm hc⟩) g
  | union hkd q r hks hq hr hl1 hl2=>
   rw [hks] at hlen AZ
   obtain ⟨⟨r1,m1⟩,⟨r2,m2⟩,rfl⟩:=jW hlen
   have c1:ig facts.length q.attrs.length m1:=by
    have:=A8 0 (by rw [hks]; simp) (by simp)
    simpa [hks] using this
   have c2:ig facts.length r.attrs.length m2:=by
    have:=A8 1 (by rw [hks]; simp) (by simp)
    simpa [hks] using this
   have h12:r1≠r2:=by simpa using hnd
   have ji:bZ p facts [m1,m2]=some (gq m1++gq m2):=by unfold bZ; rw [abQ (by omega),hks]; simp [hkd]
   simp only [acn,adR] at hA Ai Aj MS
   refine R.aO 5 80 mixed (by decide +kernel) ?_; simp only [go_sem]
   refine RY.kW (qG) rfl rfl (.nil) ?_
   (refine aH 80 _ _ ?_; simp only [go_sem])
   refine ⟨_,.inl ⟨rfl,.look 139 _ _ false _ _ (key p.kind) 3 138 (.int .i64) (F 154) rfl rfl rfl oH true (by rw [hkd]; exact ⟨rfl,by simp [eG,bY],by simp [eG],4,by simp [eG],rfl,rfl⟩)⟩,aj (by (simp only [go_sem])),?_⟩
   (refine aH 80 _ _ ?_; simp only [go_sem])
   have hcon:=X8 p facts r1 r2 m1 m2 h12 c1.nodup c2.nodup ((hA _ _ ji (.refl _)).ok hat)
   refine R.ql (t:=30) (f:=154) (by rfl) 60 (by rfl) rfl rfl rfl (aj (by (simp only [go_sem]))) (.cons (.pd _) .nil) hcon (fun r' m' h=>?_) (fun r' h=>by simp at h) ?_
   ·have hz:=bU h12
    simp only [lk] at h
    split at h
    ·rename_i e; subst e; cases h; simp [St.map,lk,rD,hz]
    ·split at h
     ·rename_i e; subst e; cases h; simp [St.map,lk,rD]
     ·cases h
   rintro res M' ⟨r0,L,rfl,rfl,hperm⟩ hh
   have hrr:w.heap.size≤r0:=by
    rcases hh r0 _ (ab8 rfl) with h | h
    ·simp at h
    ·exact h.1
   clear hh
   simp only [Behind]
   refine aMD ?_
   refine R.fK (by rfl) 60 (by rfl) rfl rfl (aj (by (simp only [go_sem]))) (.cons (.pd _) .nil) (qJ r0 (bg L) (gZ L) ((hA _ _ ji hperm).vN hfl)) (fun r' m' h=>?_) (fun r' h=>?_) ?_
   ·simp only [lk] at h
    split at h
    ·rename_i e; subst e; cases h; simp [St.map,lk]
    ·cases h
   ·simp only [adJ] at h; subst h; exact ⟨by simp [lk],.inl hrr⟩
   rintro res M' (⟨hc,rfl,rfl⟩ | ⟨hc,rfl,rfl⟩) hh <;> clear hh
   ·simp only [Behind]
    refine aMD ?_
    refine R.uw (vc:=True) [(r0,aK (dB (bg L)))] rfl trivial (.inl ⟨r0,_,rfl,rfl,Ai _ _ ji hperm hc⟩) (fun r' m' h=>?_)
    simp only [lk] at h
    split at h
    ·rename_i e; subst e; cases h; exact ⟨by simp [St.map,lk],.inr hrr⟩
    ·cases h
   ·simp only [Behind]
    exact fun a w E g=>qU (.inr ⟨rfl,rfl,Aj _ _ ji hperm hc⟩) g
  | minus hkd q r hks hq hr hl1 hl2=>
   rw [hks] at hlen AZ
   obtain ⟨⟨r1,m1⟩,⟨r2,m2⟩,rfl⟩:=jW hlen
   have c1:ig facts.length q.attrs.length m1:=by
    have:=A8 0 (by rw [hks]; simp) (by simp)
    simpa [hks] using this
   have c2:ig facts.length r.attrs.length m2:=by
    have:=A8 1 (by rw [hks]; simp) (by simp)
    simpa [hks] using this
   have h12:r1≠r2:=by simpa using hnd
   simp only [acn,adR] at hA Ai Aj MS
   refine R.aO 5 80 mixed (by decide +kernel) ?_; simp only [go_sem]
   refine RY.kW (qG) rfl rfl (.nil) ?_
   (refine aH 80 _ _ ?_; simp only [go_sem])
   refine ⟨_,.inl ⟨rfl,.look 139 _ _ false _ _ (key p.kind) 3 138 (.int .i64) (F 155) rfl rfl rfl oH true (by rw [hkd]; exact ⟨rfl,by simp [eG,bY],by simp [eG],5,by simp [eG],rfl,rfl⟩)⟩,aj (by (simp only [go_sem])),?_⟩
   (refine aH 80 _ _ ?_; simp only [go_sem])
   have hcon:=Yb p facts r1 r2 m1 m2 h12 c1.nodup c2.nodup (c1.lens hfl) (c2.lens hfl) ((JQ c1 c2).ok (by rw [← hl1]; exact hat))
   refine R.ql (t:=30) (f:=155) (by rfl) 60 (by rfl) rfl rfl rfl (aj (by (simp only [go_sem]))) (.cons (.pd _) .nil) hcon (fun r' m' h=>?_) (fun r' h=>by simp at h) ?_
   ·have hz:=bU h12
    simp only [lk] at h
    split at h
    ·rename_i e; subst e; cases h; simp [St.map,lk,rD,hz]
    ·split at h
     ·rename_i e; subst e; cases h; simp [St.map,lk,rD]
     ·cases h
   rintro res M' hQ hh
   split at hQ
   case isFalse hno=>
    obtain ⟨rfl,rfl⟩:=hQ
    simp only [Behind]
    refine fun a w E g=>qU (.inr ⟨rfl,rfl,MS ?_⟩) g
    unfold bZ
    rw [abQ (by omega),hks]
    simp only
    rw [abQ (by omega),abQ (by omega),abQ (fun h=>hno (by simpa using h))]
   case isTrue hyes=>
   have ji:bZ p facts [m1,m2]=some (m1.flatMap (jU m2)):=by
    unfold bZ
    rw [abQ (by omega),hks]
    simp only
    rw [abQ (by omega),abQ (by omega),ab8 (by simpa using hyes)]
   obtain ⟨r0,L,rfl,rfl,hperm⟩:=hQ
   have hrr:w.heap.size≤r0:=by
    rcases hh r0 _ (ab8 rfl) with h | h
    ·simp at h
    ·exact h.1
   clear hh
   simp only [Behind]
   refine aMD ?_
   refine R.fK (by rfl) 60 (by rfl) rfl rfl (aj (by (simp only [go_sem]))) (.cons (.pd _) .nil) (qJ r0 (bg L) (gZ L) ((hA _ _ ji hperm).vN hfl)) (fun r' m' h=>?_) (fun r' h=>?_) ?_
   ·simp only [lk] at h
    split at h
    ·rename_i e; subst e; cases h; simp [St.map,lk]
    ·cases h
   ·simp only [adJ] at h; subst h; exact ⟨by simp [lk],.inl hrr⟩
   rintro res M' (⟨hc,rfl,rfl⟩ | ⟨hc,rfl,rfl⟩) hh <;> clear hh
   ·simp only [Behind]
    refine aMD ?_
    refine R.uw (vc:=True) [(r0,aK (dB (bg L)))] rfl trivial (.inl ⟨r0,_,rfl,rfl,Ai _ _ ji hperm hc⟩) (fun r' m' h=>?_)
    simp only [lk] at h
    split at h
    ·rename_i e; subst e; cases h; exact ⟨by simp [St.map,lk],.inr hrr⟩
    ·cases h
   ·simp only [Behind]
    exact fun a w E g=>qU (.inr ⟨rfl,rfl,Aj _ _ ji hperm hc⟩) g
  | ren hkd q hks hq hl=>
   rw [hks] at hlen AZ
   obtain ⟨⟨r1,m1⟩,rfl⟩:=ajV.1 hlen
   have c1:ig facts.length q.attrs.length m1:=by
    have:=A8 0 (by rw [hks]; simp) (by simp)
    simpa [hks] using this
   have ji:bZ p facts [m1]=some (gq m1):=by unfold bZ; rw [abQ (by omega),hks]; simp [hkd]
   simp only [acn,adR] at hA Ai Aj MS
   have hperm:(gq m1).Perm (gq m1):=.refl _
   have hself:=Yh c1
   have hrr:w.heap.size≤r1:=hge (r1,m1) (by simp)
   refine R.aO 5 80 mixed (by decide +kernel) ?_; simp only [go_sem]
   refine RY.kW (qG) rfl rfl (.nil) ?_
   (refine aH 80 _ _ ?_; simp only [go_sem])
   refine ⟨_,.inl ⟨rfl,.look 139 _ _ false _ _ (key p.kind) 3 138 (.int .i64) (F 156) rfl rfl rfl oH true (by rw [hkd]; exact ⟨rfl,by simp [eG,bY],by simp [eG],6,by simp [eG],rfl,rfl⟩)⟩,aj (by (simp only [go_sem])),?_⟩
   (refine aH 80 _ _ ?_; simp only [go_sem])
   have hcon:=(UN p facts r1 []).toM
   refine R.ql (t:=30) (f:=156) (by rfl) 60 (by rfl) rfl rfl rfl (aj (by (simp only [go_sem]))) (.cons (.pd _) .nil) hcon (fun r' m' h=>?_) (fun r' h=>by simp at h) ?_
   ·simp [lk] at h
   rintro res M' ⟨rfl,rfl⟩ hh; clear hh
   simp only [Behind]
   refine aMD ?_
   refine R.fK (by rfl) 60 (by rfl) rfl rfl (aj (by (simp only [go_sem]))) (.cons (.pd _) .nil) (qJ r1 (bg (gq m1)) (gZ (gq m1)) ((hA _ _ ji hperm).vN hfl)) (fun r' m' h=>?_) (fun r' h=>?_) ?_
   ·simp only [lk] at h
    split at h
    ·rename_i e; subst e; rw [hself] at h; cases h; simp [St.map,lk,rD]
    ·cases h
   ·simp only [adJ] at h; subst h; exact ⟨by simp [lk],.inl hrr⟩
   rintro res M' (⟨hc,rfl,rfl⟩ | ⟨hc,rfl,rfl⟩) hh <;> clear hh
   ·simp only [Behind]
    refine aMD ?_
    refine R.uw (vc:=True) [(r1,aK (dB (bg (gq m1))))] rfl trivial (.inl ⟨r1,_,rfl,rfl,Ai _ _ ji hperm hc⟩) (fun r' m' h=>?_)
    simp only [lk] at h
    split at h
    ·rename_i e; subst e; cases h; exact ⟨by simp [St.map,lk],.inr hrr⟩
    ·cases h
   ·simp only [Behind]
    exact fun a w E g=>qU (.inr ⟨rfl,rfl,Aj _ _ ji hperm hc⟩) g
end Go.Proofs.Z
