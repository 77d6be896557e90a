/- A part of the proof. -/
import Derived.Test.YtjbhhddfaohdnaaGreatDoorPEc
set_option linter.all false
set_option linter.deprecated false
open Array renaming replicate→afQ
open Go.Proofs.Tryz renaming prog→aai
open Go.Region renaming ready→aqj,noSelect→azh,wanted→aqh
open Int renaming reduceEq→aga
open List renaming length_cons→afM,length_nil→agq,nodup_nil→avt,filterMap_append→aty,length_filterMap_le→aqN,range→agi,getElem_range→aus,length→af0,getElem_cons_zero→agV,getElem_cons_succ→apb
open Option renaming getD_some→agd,map_some→ajr,bind_some→ap7,map→aiA
section
namespace Go.au
structure Head (e:TypeId) (n:Nat) (w:World) (G:Pub) (v:Value) (ds:List PD):Prop where
 xs:∃ xs,w.ownsRow 0 e 1 v ds.length xs∧∀ j,j<ds.length→(xs.getD j undef).oneCell'=true∧Rd w G (xs.getD j undef) ((ds.getD j (.ak [])).cell 0)
 wid:∀ j,j<ds.length→(ds.getD j (.ak [])).width=1
 low:∀ b,v.ownBlock=some b→n≤b∧∀ o,¬ G b o
section
variable {e:TypeId} {n:Nat} {w w':World} {G G':Pub} {v v':Value} {ds:List PD}
theorem Head.nil:Head e n w G (.slice none 0 0) []:=⟨⟨[],⟨rfl,.inl ⟨rfl,rfl⟩⟩,fun j hj=>by simp at hj⟩,fun j hj=>by simp at hj,fun b h=>by cases h⟩
theorem vW {xs:List Value} {k:Nat} (h:w.ownsRow 0 e 1 v k xs) {b:Nat} (hb:v.ownBlock=some b):∃ cap cur,v = .slice (some ⟨b,0,none⟩) k cap∧w.heap[b]? = some (.cells cur e (0,0))∧k≤cap∧cap≤maxLen∧cur.size=cap∧cur.toList.take k=xs:=by
 rcases h.2 with ⟨rfl,_⟩ | ⟨g,cap,cur,rfl,_,hg,h1,h2,h3,h4⟩
 ·cases hb
 ·simp only [Value.ownBlock,ad2] at hb
  subst hb
  exact ⟨cap,cur,rfl,hg,h1,h2,by simpa using h3,by simpa using h4⟩
theorem Head.lt (h:Head e n w G v ds) {b:Nat} (hb:v.ownBlock=some b):b<w.heap.size:=by
 obtain ⟨xs,ho,_⟩:=h.xs
 obtain ⟨_,_,_,hg,_⟩:=vW ho hb
 exact (ad6.1 hg).1
theorem Uh {xs:List Value} {k:Nat} (h:w.ownsRow 0 e 1 v k xs) (hb:∀ b,v.ownBlock=some b→w'.heap[b]? = w.heap[b]?):w'.ownsRow 0 e 1 v k xs:=by
 refine ⟨h.1,?_⟩
 rcases h.2 with h1 | ⟨g,cap,cur,rfl,h0,hg,h2⟩
 ·exact .inl h1
 ·exact .inr ⟨g,cap,cur,rfl,h0,(hb g rfl).trans hg,h2⟩
theorem Head.keep (h:Head e n w G v ds) (hb:∀ b,v.ownBlock=some b→w'.heap[b]? = w.heap[b]?) (hG:∀ b o,G' b o→G b o∨w.heap.size≤b) (hk:Keeps w G w' G'):Head e n w' G' v ds:=by
 obtain ⟨xs,ho,hr⟩:=h.xs
 refine ⟨⟨xs,Uh ho hb,fun j hj=>⟨(hr j hj).1,(hr j hj).2.keep hk⟩⟩,h.wid,fun b hb'=>⟨(h.low b hb').1,fun o ho'=>?_⟩⟩
 rcases hG b o ho' with h1 | h1
 ·exact (h.low b hb').2 o h1
 ·have:=h.lt hb'; omega
theorem Head.read (h:Head e n w G v ds) (hG:∀ b o,G b o→G' b o) (hp:∀ b o,v.ownBlock=some b→G' b o):aN w G' v (.list 1 ds):=by
 obtain ⟨xs,ho,hr⟩:=h.xs
 have hk:Keeps w G w G':=⟨hG,fun _ _ _=>rfl,fun _ _ _=>rfl⟩
 rcases ho.2 with ⟨rfl,h0⟩ | ⟨g,cap,cur,rfl,_,hg,h1,h2,h3,h4⟩
 ·have:ds=[]:=ai9.1 h0
  rw [this]
  exact (Rd.emp (sz:=1) (p:=none)).CJ
 ·refine (Rd.pO h1 h2 h.wid fun i hi j hj=>?_).CJ
  rw [h.wid i hi] at hj
  obtain rfl:j=0:=by omega
  have hc:i<cur.size:=by rw [h3]; omega
  have hx:xs.getD i undef=cur[i]:=by
   rw [← h4,aax,arN (by omega)]
   simp [hc]
  refine ⟨hp g _ rfl,cur[i],by simp [World.cell?,hg,hc],?_⟩
  rw [← hx]
  exact (hr i hi).2.keep hk
theorem Head.more {x:Value} {d:PD} {xs:List Value} (h:Head e n w G v ds) (hx:∀ Jf,w.ownsRow 0 e 1 v ds.length Jf→(∀ j,j<ds.length→(Jf.getD j undef).oneCell'=true∧Rd w G (Jf.getD j undef) ((ds.getD j (.ak [])).cell 0))→xs=Jf++[x])
  (ho:w'.ownsRow 0 e 1 v' (ds.length+1) xs) (hk:Keeps w G w' G) (h1:x.oneCell'=true) (hr:Rd w G x (d.cell 0)) (hw:d.width=1) (hs:w.heap.size≤w'.heap.size)
  (hb:v'.ownBlock=v.ownBlock∨v'.ownBlock=some w.heap.size) (hn:n≤w.heap.size) (hG:∀ b o,G b o→b<w.heap.size):Head e n w' G v' (ds++[d]):=by
 obtain ⟨Jf,ho0,hr0⟩:=h.xs
 have e1:=hx Jf ho0 hr0
 subst e1
 have hl:Jf.length=ds.length:=by simpa using ho0.1
 refine ⟨⟨Jf++[x],by simpa using ho,fun j hj=>?_⟩,fun j hj=>?_,fun b hb'=>?_⟩
 ·simp only [aec,afM,agq] at hj
  simp only [aax]
  by_cases c:j<ds.length
  ·rw [af8 (by omega),af8 c]
   have:=hr0 j c
   simp only [aax] at this
   exact ⟨this.1,this.2.keep hk⟩
  ·obtain rfl:j=ds.length:=by omega
   rw [ags (by omega),ags (by omega),hl]
   simp only [auq,List.getElem?_cons_zero,agd]
   exact ⟨h1,hr.keep hk⟩
 ·simp only [aec,afM,agq] at hj
  simp only [aax]
  by_cases c:j<ds.length
  ·rw [af8 c]
   have:=h.wid j c
   simpa only [aax] using this
  ·obtain rfl:j=ds.length:=by omega
   rw [ags (by omega)]
   simpa using hw
 ·rcases hb with hb | hb
  ·rw [hb] at hb'; exact h.low b hb'
  ·rw [hb] at hb'; cases hb'
   exact ⟨hn,fun o ho=>by have:=hG _ _ ho; omega⟩
structure fV (e:TypeId) (n:Nat) (w:World) (G:Pub) (m:Nat) (hs:Nat→Value) (D:Nat→List PD):Prop where
 own:∀ t,t<m→Head e n w G (hs t) (D t)
 apart:∀ t t' b,t<m→t' < m→t≠t'→(hs t).ownBlock=some b→(hs t').ownBlock≠some b
theorem fV.keep {m:Nat} {hs:Nat→Value} {D:Nat→List PD} (h:fV e n w G m hs D) (hb:∀ b,b<w.heap.size→(∃ t,t<m∧(hs t).ownBlock=some b)→w'.heap[b]? = w.heap[b]?) (hG:∀ b o,G' b o→G b o∨w.heap.size≤b) (hk:Keeps w G w' G'):fV e n w' G' m hs D:=
 ⟨fun t ht=>(h.own t ht).keep (fun b hb'=>hb b ((h.own t ht).lt hb') ⟨t,ht,hb'⟩) hG hk,h.apart⟩
def pz {α:Type} (f:Nat→α) (t:Nat) (x:α):Nat→α:=fun j=>if j=t then x else f j
theorem jg {α:Type} (f:Nat→α) (t:Nat) (x:α):pz f t x t=x:=adA rfl
theorem fG {α:Type} {f:Nat→α} {t j:Nat} {x:α} (h:j≠t):pz f t x j=f j:=adt h
theorem fV.step {m t:Nat} {hs:Nat→Value} {D:Nat→List PD} {ds':List PD} (h:fV e n w G m hs D) (ht:t<m) (hg:w.grownBy w' (hs t).ownBlock) (hv:Head e n w' G v' ds') (hb:v'.ownBlock=(hs t).ownBlock∨v'.ownBlock=some w.heap.size) (hk:Keeps w G w' G):
  fV e n w' G m (pz hs t v') (pz D t ds'):=by
 refine ⟨fun j hj=>?_,fun j j' b hj hj' hne hjb=>?_⟩
 ·by_cases c:j=t
  ·subst c; rw [jg,jg]; exact hv
  ·rw [fG c,fG c]
   refine (h.own j hj).keep (fun b hb'=>hg.block b ((h.own j hj).lt hb') fun e=>?_) (fun b o h=>.inl h) hk
   exact h.apart t j b ht hj (aqm c) e.symm hb'
 ·by_cases c:j=t
  ·subst c
   rw [jg] at hjb
   rw [fG (aqm hne)]
   rcases hb with hb | hb
   ·rw [hb] at hjb; exact h.apart j j' b hj hj' hne hjb
   ·rw [hb] at hjb; cases hjb
    intro e2
    have:=(h.own j' hj').lt e2
    omega
  ·rw [fG c] at hjb
   by_cases c':j'=t
   ·subst c'
    rw [jg]
    rcases hb with hb | hb
    ·rw [hb]; exact h.apart j j' b hj hj' hne hjb
    ·rw [hb]
     intro e2; cases e2
     have:=(h.own j hj).lt hjb
     omega
   ·rw [fG c']; exact h.apart j j' b hj hj' hne hjb
def fV.pub (G:Pub) (m:Nat) (hs:Nat→Value):Pub:=fun b o=>G b o∨∃ t,t<m∧(hs t).ownBlock=some b
theorem fV.reads {m:Nat} {hs:Nat→Value} {D:Nat→List PD} (h:fV e n w G m hs D) (t:Nat) (ht:t<m):aN w (fV.pub G m hs) (hs t) (.list 1 (D t)):=
 (h.own t ht).read (fun _ _ h=>.inl h) (fun b o hb=>.inr ⟨t,ht,hb⟩)
end
end Go.au
end
section
namespace Go.Proofs.Z
open Go Go.au Go.Proofs
section
variable (key:List V→Option (List UInt8)) (more:List V→List V)
def vX (ks:List (List UInt8)) (y:List V):List (List UInt8):=match key y with
 | some k=>if k∈ks then ks else ks++[k]
 | none=>ks
def keysL (l:List (List V)):List (List UInt8):=l.foldl (vX key) []
def moreL (l:List (List V)) (k:List UInt8):List (List V):=l.filterMap fun y=>if key y=some k then some (more y) else none
def headD (l:List (List V)) (t:Nat):List PD:=match (keysL key l)[t]? with
 | some k=>(moreL key more l k).map vals
 | none=>[]
end
section
variable {key:List V→Option (List UInt8)} {more:List V→List V} {l:List (List V)} {y:List V} {k:List UInt8}
theorem EP:keysL key (l++[y])=vX key (keysL key l) y:=by simp [keysL,asK]
theorem MH (h:key y=none):keysL key (l++[y])=keysL key l:=by rw [EP,vX,h]
theorem Px (h:key y=some k) (hm:k∈keysL key l):keysL key (l++[y])=keysL key l:=by rw [EP,vX,h]; exact adA hm
theorem Py (h:key y=some k) (hm:k∉keysL key l):keysL key (l++[y])=keysL key l++[k]:=by rw [EP,vX,h]; exact adt hm
theorem ade {ks:List (List UInt8)} (hn:ks.Nodup):(vX key ks y).Nodup∧(∀ x∈ks,x∈vX key ks y)∧(∀ k,key y=some k→k∈vX key ks y)∧(vX key ks y).length≤ks.length+1:=by
 unfold vX
 cases h:key y with
 | none=>exact ⟨hn,fun _ h=>h,(by intro k h; cases h),by show ks.length≤_; omega⟩
 | some k=>
  by_cases hm:k∈ks
  ·simp only [adA hm]
   exact ⟨hn,fun _ h=>h,(fun k' h=>by cases h; exact hm),by omega⟩
  ·simp only [adt hm]
   refine ⟨?_,fun x hx=>arK _ hx,(fun k' h=>by cases h; simp),by simp⟩
   rw [ap9]
   refine ⟨hn,apq.2 ⟨by simp,avt⟩,?_⟩
   intro a ha b hb e
   rw [adJ] at hb
   subst hb e
   exact hm ha
theorem ER:∀ (l:List (List V)) (ks:List (List UInt8)),ks.Nodup→(l.foldl (vX key) ks).Nodup∧(∀ x∈ks,x∈l.foldl (vX key) ks)∧(∀ y∈l,∀ k,key y=some k→k∈l.foldl (vX key) ks)∧(l.foldl (vX key) ks).length≤ks.length+l.length
 | [],ks,hn=>⟨hn,fun _ h=>h,fun y h=>by simp at h,by simp⟩
 | y::l,ks,hn=>by
  obtain ⟨h1,h2,h3,h4⟩:=ade (key:=key) (y:=y) hn
  obtain ⟨i1,i2,i3,i4⟩:=ER l _ h1
  refine ⟨i1,fun x hx=>i2 x (h2 x hx),fun z hz k hk=>?_,by simp only [List.foldl_cons,afM]; omega⟩
  rcases agB.1 hz with rfl | hz
  ·exact i2 k (h3 k hk)
  ·exact i3 z hz k hk
theorem CG (l:List (List V)):(keysL key l).Nodup:=(ER l [] avt).1
theorem Pz (l:List (List V)):(keysL key l).length≤l.length:=by
 have:=(ER (key:=key) l [] avt).2.2.2
 rw [agq,ao8] at this
 exact this
theorem adf {l:List (List V)} (hy:y∈l) (h:key y=some k):k∈keysL key l:=(ER l [] avt).2.2.1 y hy k h
theorem MI (h:k∉keysL key l):moreL key more l k=[]:=by
 unfold moreL
 rw [List.filterMap_eq_nil_iff]
 intro y hy
 rw [adt]
 exact fun e=>h (adf hy e)
theorem yT:moreL key more (l++[y]) k=moreL key more l k++(if key y=some k then [more y] else []):=by
 unfold moreL
 rw [aty]
 congr 1
 by_cases h:key y=some k
 ·simp [h]
 ·simp [h]
theorem PE (l:List (List V)) (k:List UInt8):(moreL key more l k).length≤l.length:=aqN _ _
theorem qR {t:Nat} (h:t<(keysL key l).length):headD key more l t=(moreL key more l (keysL key l)[t]).map vals:=by
 unfold headD; rw [af4 h]
theorem uH {t:Nat} (h:(keysL key l).length≤t):headD key more l t=[]:=by
 unfold headD; rw [ao6 h]
theorem aaT (l:List (List V)) (t:Nat):(headD key more l t).length≤l.length:=by
 by_cases h:t<(keysL key l).length
 ·rw [qR h,adu]; exact PE _ _
 ·rw [uH (by omega)]; simp
theorem Yd (h:key y=none):headD key more (l++[y])=headD key more l:=by
 funext t
 unfold headD
 rw [MH h]
 cases (keysL key l)[t]? with
 | none=>rfl
 | some k=>simp only [yT,h]; simp
theorem aaU {α:Type} {l:List α} (hn:l.Nodup) {i j:Nat} (hi:i<l.length) (hj:j<l.length) (h:l[i]=l[j]):i=j:=by
 rcases asC i j with c | c | c
 ·exact ((agc.1 hn) i j hi hj c h).elim
 ·exact c
 ·exact ((agc.1 hn) j i hj hi c h.symm).elim
theorem aaV {j:Nat} (h:key y=some k) (hj:j<(keysL key l).length) (hk:(keysL key l)[j]=k):headD key more (l++[y])=pz (headD key more l) j (headD key more l j++[vals (more y)]):=by
 have hm:k∈keysL key l:=hk ▸ aaO hj
 funext t
 have e:=Px (key:=key) h hm
 by_cases ht:t<(keysL key l).length
 ·have ht':t<(keysL key (l++[y])).length:=by rw [e]; exact ht
  have e2:(keysL key (l++[y]))[t]=(keysL key l)[t]:=by simp only [e]
  rw [qR ht',e2,yT]
  by_cases c:t=j
  ·subst c
   rw [jg,qR ht,hk,adA h,aei]; rfl
  ·rw [fG c,qR ht,adt,ao3]
   intro e3
   rw [h] at e3
   have e3:k=(keysL key l)[t]:=aso e3
   rw [← hk] at e3
   exact c (aaU (CG l) ht hj e3.symm)
 ·have ht':(keysL key (l++[y])).length≤t:=by rw [e]; omega
  rw [uH ht',fG (by omega),uH (by omega)]
theorem aaW (h:key y=some k) (hm:k∉keysL key l):headD key more (l++[y])=pz (headD key more l) (keysL key l).length (headD key more l (keysL key l).length++[vals (more y)]):=by
 funext t
 have e:=Py (key:=key) h hm
 have el:(keysL key (l++[y])).length=(keysL key l).length+1:=by rw [e]; simp
 by_cases c:t=(keysL key l).length
 ·subst c
  have e2:(keysL key (l++[y]))[(keysL key l).length]'(by omega)=k:=by simp [e]
  rw [jg,qR (by omega),e2,uH (aew _),yT,adA h,MI hm]; rfl
 ·rw [fG c]
  by_cases ht:t<(keysL key l).length
  ·have e2:(keysL key (l++[y]))[t]'(by omega)=(keysL key l)[t]:=by simp [e,ht]
   rw [qR (by omega),e2,yT,qR ht,adt,ao3]
   intro e3
   rw [h] at e3
   have e3:k=(keysL key l)[t]:=aso e3
   exact hm (e3 ▸ aaO ht)
  ·rw [uH (by omega),uH (by omega)]
end
def iM (ks:List (List UInt8)) (d:Nat→PD):jW:=(agi ks.length).map fun t=>(.string (str (ks.getD t [])),d t)
theorem adg (ks:List (List UInt8)) (d:Nat→PD):(iM ks d).length=ks.length:=by simp [iM]
theorem xW (ks:List (List UInt8)) (d:Nat→PD):(iM ks d).map (·.1)=ks.map fun k=>Value.string (str k):=by
 unfold iM
 apply am8
 ·simp
 ·intro i h1 h2
  simp only [adu,arU] at h1
  simp [h1]
theorem afC {ks:List (List UInt8)} {d:Nat→PD} {t:Nat} (h:t<ks.length):(iM ks d).getD t (undef,.ak [])=(.string (str ks[t]),d t):=by
 simp [iM,h,aax]
theorem VX (ks:List (List UInt8)) (d:Nat→PD):∀ p∈iM ks d,bV .string p.1=true:=by
 intro p hp
 obtain ⟨t,_,rfl⟩:=adE.1 hp
 rfl
theorem str_inj {a b:List UInt8} (h:str a=str b):a=b:=by
 have:=congrArg bytes h
 simpa [str,bytes] using this
theorem adh {ks:List (List UInt8)} {k:List UInt8} (d:Nat→PD) (h:k∉ks):∀ p∈iM ks d,bV .string p.1=true∧p.1≠.string (str k):=by
 intro p hp
 have h1:p.1∈(iM ks d).map (·.1):=adE.2 ⟨p,hp,rfl⟩
 refine ⟨VX ks d p hp,fun e=>?_⟩
 rw [xW,e] at h1
 obtain ⟨x,hx,e2⟩:=adE.1 h1
 exact h (str_inj (Value.string.inj e2) ▸ hx)
theorem adi {ks:List (List UInt8)} {d:Nat→PD} {j:Nat} {x:PD} (hj:j<ks.length):(iM ks d).set j (.string (str ks[j]),x)=iM ks (pz d j x):=by
 unfold iM
 apply am8
 ·simp
 ·intro i h1 h2
  simp only [apX,atC,aus]
  by_cases c:j=i
  ·subst c; rw [adA rfl,jg]; simp [hj]
  ·rw [adt c,fG (fun e=>c e.symm)]
theorem adk {ks:List (List UInt8)} {d:Nat→PD} {k:List UInt8} {x:PD}:iM ks d++[(.string (str k),x)]=iM (ks++[k]) (pz d ks.length x):=by
 unfold iM
 apply am8
 ·simp
 ·intro i h1 h2
  simp only [aec,adu,arU,afM,agq] at h1
  by_cases c:i=ks.length
  ·subst c
   rw [arH (by simp)]
   simp [jg]
  ·have hi:i<ks.length:=by omega
   rw [asY (by simpa using hi)]
   simp only [apX,aus]
   rw [fG c,aax,aax,af8 hi]
theorem VY (hs:Nat→Value) (j:Nat) (v:Value):(fun t=>PD.raw (pz hs j v t))=pz (fun t=>PD.raw (hs t)) j (.raw v):=by
 funext t
 by_cases c:t=j
 ·subst c; rw [jg,jg]
 ·rw [fG c,fG c]
theorem Ui {ks:List (List UInt8)} {d:Nat→PD} {j:Nat} (hn:ks.Nodup) (hj:j<ks.length):mJ aai 47 .string (.string (str ks[j])) ((iM ks d).map (·.1)) ((iM ks d).map (·.2)) true (d j):=by
 refine ⟨rfl,fun k hk=>?_,?_,j,by simp [iM,hj],?_,?_⟩
 ·rw [xW] at hk
  obtain ⟨x,_,rfl⟩:=adE.1 hk
  rfl
 ·rw [xW,List.Nodup,ap0]
  exact hn.imp fun {a b} h e=>h (str_inj (Value.string.inj e))
 ·rw [xW]; simp [hj]
 ·simp [iM,hj]
theorem PG {ks:List (List UInt8)} {d:Nat→PD} {k:List UInt8} (h:k∉ks):mJ aai 47 .string (.string (str k)) ((iM ks d).map (·.1)) ((iM ks d).map (·.2)) false (.raw (.slice none 0 0)):=by
 refine ⟨rfl,fun k' hk=>?_,abx⟩
 rw [xW] at hk
 obtain ⟨x,hx,rfl⟩:=adE.1 hk
 exact ⟨rfl,fun e=>h (str_inj (Value.string.inj e) ▸ hx)⟩
end Go.Proofs.Z
end
section
namespace Go.au
def Cx.iy (P:Program) (w:World) (G:Pub) (post:Exit→Act→World→Prop) (df:List Deferred) (rb:Nat→Option (Option (Nat × Nat))) (mp:Nat→Prop):Cx:=
 { P:=P,w0:=w,G0:=G,post:=post,mu:=fun b=>(∃ i p,rb i=some (some p)∧p.1=b)∨mp b,df:=df,iH:=rb,dr:=false }
section
variable (P:Program) (w:World) (G:Pub) (post:Exit→Act→World→Prop) (df:List Deferred) (rb:Nat→Option (Option (Nat × Nat))) (mp:Nat→Prop)
theorem pJ:(Cx.iy P w G post df rb mp).P=P:=rfl
theorem uI (t:Nat):(Cx.iy P w G post df rb mp).vb0 t=none:=rfl
theorem uJ (i:Nat):(Cx.iy P w G post df rb mp).iH i=rb i:=rfl
end
structure sJ (C:Cx) (w:World) (G:Pub) (rb:Nat→Option (Option (Nat × Nat))) (mp:Nat→Prop):Prop where
 kept:Kept C.dr C.mu C.w0 w
 g0:∀ b o,C.G0 b o→G b o
 g1:∀ b o,G b o→C.G0 b o∨C.w0.heap.size≤b
 gw:∀ b o,G b o→b<w.heap.size
 own:∀ i p,rb i=some (some p)→C.w0.heap.size≤p.1∧p.1<w.heap.size∧∀ o,¬ G p.1 o
 map:∀ b,mp b→C.w0.heap.size≤b∧b<w.heap.size∧(∀ o,¬ G b o)∧∃ x,w.heap[b]? = some x∧∀ cs e d,x≠.cells cs e d
def iG (s:St) (E:Env):Nat→Option (Option (Nat × Nat)):=fun i=>if (s.row i).isSome=true then some (E.rb i) else none
theorem PI {s:St} {E:Env} {i:Nat} (h:(s.row i).isSome=false):iG s E i=none:=by unfold iG; rw [h]; rfl
def lQ (s:St):Nat→Prop:=fun r=>(s.map r).isSome=true
structure St.Bare (s:St) (n0:Nat):Prop where
 vars:s.vars=[]
 maps:∀ r m,s.map r=some m→n0≤r∧∃ a,m = .map a
 gs:s.gs=[]
 box:∀ t cs,s.get t≠.box cs
section
variable {C:Cx} {P:Program} {s:St} {a:Act} {w w1 w':World} {G1:Pub} {E:Env} {rb:Nat→Option (Option (Nat × Nat))} {mp:Nat→Prop} {post post':Exit→Act→World→Prop} {df:List Deferred} {e:TypeId} {n m:Nat} {hs:Nat→Value} {D:Nat→List PD} {k:List KI}
theorem aF.Hu (g:aF (Cx.iy P w1 G1 post df rb mp) s a w E):aF (Cx.iy P w1 G1 post' df rb mp) s a w E where
 kept:=g.kept
 defers:=g.defers
 size:=g.size
 g0:=g.g0
 g1:=g.g1
 gw:=g.gw
 tab:=g.tab
 slots:=g.slots
 bG:=g.bG
 vars:=g.vars
 rows:=g.rows
 maps:=fun r m h=>by
  have:=g.maps r m h
  cases m <;> exact this
 boxes:=g.boxes
 vv:=g.vv
 rr:=g.rr
 vr:=g.vr
 bb:=g.bb
 bv:=g.bv
 br:=g.br
 dU:=g.dU
 dN:=g.dN
 dD:=g.dD
theorem sJ.keeps (N:sJ C w1 G1 rb mp) (g:aF (Cx.iy P w1 G1 post df rb mp) s a w E):Keeps w1 G1 w E.G:=by
 have hb:∀ b o,G1 b o→w.heap[b]? = w1.heap[b]?:=fun b o h=>g.kept.block b (N.gw b o h) (by
  rintro (⟨i,p,h1,h2⟩ | h1)
  ·exact (N.own i p h1).2.2 o (h2 ▸ h)
  ·exact (N.map b h1).2.2.1 o h)
 exact ⟨g.g0,fun b o h=>World.cell?_of_block (a:=⟨b,o,none⟩) (hb b o h),fun b o h=>hb b o h⟩
def Apart (rb:Nat→Option (Option (Nat × Nat))) (m:Nat) (hs:Nat→Value):Prop:=∀ t i p,t<m→rb i=some (some p)→(hs t).ownBlock≠some p.1
theorem sJ.heads (N:sJ C w1 G1 rb mp) (g:aF (Cx.iy P w1 G1 post df rb mp) s a w E) (h:fV e n w1 G1 m hs D) (hap:Apart rb m hs):fV e n w E.G m hs D:=
 h.keep (fun b hlt hb=>g.kept.block b hlt (by
  obtain ⟨t,ht,hb⟩:=hb
  rintro (⟨i,p,h1,h2⟩ | h1)
  ·exact hap t i p ht h1 (h2 ▸ hb)
  ·obtain ⟨xs,ho,_⟩:=(h.own t ht).xs
   obtain ⟨_,_,_,hc,_⟩:=vW ho hb
   obtain ⟨_,_,_,x,hx,hne⟩:=N.map b h1
   rw [hc] at hx; cases hx
   exact hne _ _ _ rfl)) (fun b o ho=>g.g1 b o ho) (N.keeps g)
theorem sJ.apart (N:sJ C w1 G1 rb mp) (g:aF (Cx.iy P w1 G1 post df rb mp) s a w E) (h:fV e n w1 G1 m hs D) (hap:Apart rb m hs):Apart (iG s E) m hs:=by
 intro t i p ht hi hb
 unfold iG at hi
 split at hi
 ·rename_i hr
  obtain ⟨r,hr⟩:=aho.1 hr
  have hi:E.rb i=some p:=by simpa using hi
  cases h0:rb i with
  | none=>
   have h1:=g.dD i r p hr hi h0
   have h2:=(h.own t ht).lt hb
   exact avO _ (ajq h2 h1)
  | some q=>
   have h1:=g.dN i q h0
   rw [hi] at h1
   exact hap t i p ht (by rw [h0,h1]) hb
 ·cases hi
theorem sJ.next (hdr:C.dr=false) (N:sJ C w1 G1 rb mp) (g:aF (Cx.iy P w1 G1 post df rb mp) s a w E) (hb:s.Bare C.w0.heap.size) {row:Option Nat} (hw:w.grownBy w' row)
  (hr:∀ b,row=some b→C.w0.heap.size≤b∧(∀ o,¬ E.G b o)∧(∀ i p,iG s E i=some (some p)→p.1≠b)∧∀ r,lQ s r→r≠b):sJ C w' E.G (iG s E) (lQ s)∧Keeps w E.G w' E.G∧aF (Cx.iy P w' E.G post df (iG s E) (lQ s)) s a w' E:=by
 have hrow:∀ i r p,s.row i=some r→E.rb i=some p→iG s E i=some (some p):=fun i r p h1 h2=>by unfold iG; rw [h1]; exact (adA (by rfl:(some r).isSome=true)).trans (congrArg some h2)
 have Ye:∀ i p,iG s E i=some (some p)→C.w0.heap.size≤p.1∧p.1<w.heap.size∧∀ o,¬ E.G p.1 o:=by
  intro i p hi
  unfold iG at hi
  split at hi
  ·rename_i hq
   obtain ⟨r,hq⟩:=aho.1 hq
   have hi:E.rb i=some p:=by simpa using hi
   rcases g.rows i r hq with ⟨h0,_⟩ | ⟨b,cap,cur,h1,m0,_⟩
   ·rw [h0] at hi; cases hi
   ·rw [h1] at hi; cases hi
    refine ⟨?_,m0.lt,m0.2.1⟩
    show C.w0.heap.size≤b
    rcases m0.1 with h2 | ⟨j,q,h2,h3⟩ | h2
    ·exact ajk N.kept.size h2
    ·have:=(N.own j q h2).1
     omega
    ·exact (N.map b h2).1
  ·cases hi
 have ajZ:∀ r,lQ s r→C.w0.heap.size≤r∧r<w.heap.size∧(∀ o,¬ E.G r o)∧∃ x,w.heap[r]? = some x∧∀ cs e d,x≠.cells cs e d:=by
  intro r hr'
  obtain ⟨m,hm⟩:=aho.1 hr'
  obtain ⟨h0,a',rfl⟩:=hb.maps r m hm
  have hM:MapAt w E.G r a':=g.maps r _ hm
  exact ⟨h0,hM.lt,hM.1,by obtain ⟨_,es,clock,h1,_⟩:=hM; exact ⟨_,h1,by intros; simp⟩⟩
 have hk:Keeps w E.G w' E.G:=by
  have hbl:∀ b o,E.G b o→w'.heap[b]? = w.heap[b]?:=fun b o h=>hw.block b (g.gw b o h) fun e=>(hr b e.symm).2.1 o h
  exact ⟨fun _ _ h=>h,fun b o h=>World.cell?_of_block (a:=⟨b,o,none⟩) (hbl b o h),fun b o h=>hbl b o h⟩
 have hs1:w1.heap.size≤w.heap.size:=g.kept.size
 have hs0:=N.kept.size
 refine ⟨⟨⟨?_,?_,?_,?_,?_,fun h=>by rw [hdr] at h; cases h⟩,fun b o h=>g.g0 b o (N.g0 b o h),fun b o h=>?_,fun b o h=>ajq (g.gw b o h) hw.size,fun i p h=>⟨(Ye i p h).1,ajq (Ye i p h).2.1 hw.size,(Ye i p h).2.2⟩,
  fun r hr'=>by obtain ⟨h1,h2,h3,x,h4,h5⟩:=ajZ r hr'; exact ⟨h1,ajq h2 hw.size,h3,x,(hw.block r h2 fun e=>(hr r e.symm).2.2.2 r hr' rfl).trans h4,h5⟩⟩,hk,?_⟩
 ·exact hw.os.trans (g.kept.os.trans N.kept.os)
 ·exact hw.tape.trans (g.kept.tape.trans N.kept.tape)
 ·exact hw.output.trans (g.kept.output.trans N.kept.output)
 ·have:=hw.size; omega
 ·intro b hlt hm
  refine (hw.block b (by omega) (fun e=>by have:=(hr b e.symm).1; omega)).trans ((g.kept.block b (show b<w1.heap.size by omega) ?_).trans (N.kept.block b hlt hm))
  rintro (⟨i,p,h1,h2⟩ | h1)
  ·have:=(N.own i p h1).1
   omega
  ·have:=(N.map b h1).1
   omega
 ·rcases g.g1 b o h with h1 | h1
  ·exact N.g1 b o h1
  ·exact .inr (ajk hs0 h1)
 have hvar:∀ t,s.var t=none:=fun t=>by simp [St.var,hb.vars,lk]
 have hgs:∀ t,s.fH t = .dead:=fun t=>by simp [St.fH,hb.gs,lk]
 exact {
  kept:=Kept.refl _ _ _
  defers:=g.defers
  size:=g.size
  g0:=fun _ _ h=>h
  g1:=fun _ _ h=>.inl h
  gw:=fun b o h=>ajq (g.gw b o h) hw.size
  tab:=g.tab.keep hk
  slots:=fun t=>(g.slots t).keep hk rfl rfl
  bG:=fun t=>by rw [hgs]; trivial
  vars:=fun t cs h=>by rw [hvar] at h; cases h
  rows:=fun i r h=>by
   rcases g.rows i r h with h0 | ⟨b,cap,cur,h1,m0,h2,h3,h4,h5,h6⟩
   ·exact .inl h0
   ·refine .inr ⟨b,cap,cur,h1,⟨.inr (.inl ⟨i,(b,cap),hrow i r _ h h1,rfl⟩),m0.2.1,?_⟩,h2,h3,h4,h5,fun j q hj hq=>(h6 j q hj hq).keep hk⟩
    rw [hw.block b m0.lt fun e=>(hr b e.symm).2.2.1 i (b,cap) (hrow i r _ h h1) rfl]
    exact m0.2.2
  maps:=fun r m0 h=>by
   have hr':lQ s r:=by show (s.map r).isSome=true; rw [h]; rfl
   obtain ⟨_,a',rfl⟩:=hb.maps r m0 h
   have hM:MapAt w E.G r a':=g.maps r _ h
   exact MapAt.keep hk hM.1 (hw.block r hM.lt fun e=>(hr r e.symm).2.2.2 r hr' rfl) hM
  boxes:=fun t cs h=>(hb.box t cs h).elim
  vv:=fun t t' cs cs' h=>by rw [hvar] at h; cases h
  rr:=g.rr
  vr:=fun t cs i r p h=>by rw [hvar] at h; cases h
  bb:=fun t t' cs cs' h=>(hb.box t cs h).elim
  bv:=fun t t' cs cs' h=>(hb.box t cs h).elim
  br:=fun t cs i r p h=>(hb.box t cs h).elim
  dU:=fun t b h=>by cases h
  dN:=fun i p h=>by
   have h:iG s E i=some p:=h
   unfold iG at h
   split at h
   ·simpa using h
   ·cases h
  dD:=fun i r p h h1 h2=>by
   have h2:iG s E i=none:=h2
   rw [hrow i r p h h1] at h2; cases h2 }
theorem aF.aoW (g:aF C s a w E) (hdr:C.dr=false) (hmu:∀ b,¬ C.mu b) (hb:s.Bare C.w0.heap.size):sJ C w E.G (iG s E) (lQ s)∧aF (Cx.iy C.P w E.G post C.df (iG s E) (lQ s)) s a w E:=by
 have hrow:∀ i r p,s.row i=some r→E.rb i=some p→iG s E i=some (some p):=fun i r p h1 h2=>by unfold iG; rw [h1]; exact (adA (by rfl:(some r).isSome=true)).trans (congrArg some h2)
 have hvar:∀ t,s.var t=none:=fun t=>by simp [St.var,hb.vars,lk]
 have hgs:∀ t,s.fH t = .dead:=fun t=>by simp [St.fH,hb.gs,lk]
 refine ⟨⟨g.kept,g.g0,g.g1,g.gw,fun i p hi=>?_,fun r hr'=>by
  obtain ⟨m,hm⟩:=aho.1 hr'
  obtain ⟨h0,a',rfl⟩:=hb.maps r m hm
  have hM:MapAt w E.G r a':=g.maps r _ hm
  exact ⟨h0,hM.lt,hM.1,by obtain ⟨_,es,clock,h1,_⟩:=hM; exact ⟨_,h1,by intros; simp⟩⟩⟩,?_⟩
 ·unfold iG at hi
  split at hi
  ·rename_i hq
   obtain ⟨r,hq⟩:=aho.1 hq
   have hi:E.rb i=some p:=by simpa using hi
   rcases g.rows i r hq with ⟨h0,_⟩ | ⟨b,cap,cur,h1,m0,_⟩
   ·rw [h0] at hi; cases hi
   ·rw [h1] at hi; cases hi
    refine ⟨?_,m0.lt,m0.2.1⟩
    rcases m0.1 with h2 | h2
    ·exact h2
    ·exact (hmu _ h2).elim
  ·cases hi
 exact {
  kept:=Kept.refl _ _ _
  defers:=g.defers
  size:=g.size
  g0:=fun _ _ h=>h
  g1:=fun _ _ h=>.inl h
  gw:=g.gw
  tab:=g.tab
  slots:=g.slots
  bG:=fun t=>by rw [hgs]; trivial
  vars:=fun t cs h=>by rw [hvar] at h; cases h
  rows:=fun i r h=>by
   rcases g.rows i r h with h0 | ⟨b,cap,cur,h1,m0,h2⟩
   ·exact .inl h0
   ·exact .inr ⟨b,cap,cur,h1,⟨.inr (.inl ⟨i,(b,cap),hrow i r _ h h1,rfl⟩),m0.2⟩,h2⟩
  maps:=fun r m0 h=>by
   obtain ⟨_,a',rfl⟩:=hb.maps r m0 h
   have hM:MapAt w E.G r a':=g.maps r _ h
   exact hM
  boxes:=fun t cs h=>(hb.box t cs h).elim
  vv:=fun t t' cs cs' h=>by rw [hvar] at h; cases h
  rr:=g.rr
  vr:=fun t cs i r p h=>by rw [hvar] at h; cases h
  bb:=fun t t' cs cs' h=>(hb.box t cs h).elim
  bv:=fun t t' cs cs' h=>(hb.box t cs h).elim
  br:=fun t cs i r p h=>(hb.box t cs h).elim
  dU:=fun t b h=>by cases h
  dN:=fun i p h=>by
   have h:iG s E i=some p:=h
   unfold iG at h
   split at h
   ·simpa using h
   ·cases h
  dD:=fun i r p h h1 h2=>by
   have h2:iG s E i=none:=h2
   rw [hrow i r p h h1] at h2; cases h2 }
theorem sJ.back (hdr:C.dr=false) (hvb:C.vb0=fun _=>none) (hrb:C.iH=fun _=>none) (hdf:df=C.df) (hP:P=C.P) (N:sJ C w1 G1 rb mp) (g:aF (Cx.iy P w1 G1 post df rb mp) s a w E) (hb:s.Bare C.w0.heap.size):aF C s a w E:=by
 subst hdf hP
 have hvar:∀ t,s.var t=none:=fun t=>by simp [St.var,hb.vars,lk]
 have hgs:∀ t,s.fH t = .dead:=fun t=>by simp [St.fH,hb.gs,lk]
 have hs1:w1.heap.size≤w.heap.size:=g.kept.size
 have hs0:=N.kept.size
 have mo:∀ b,(w1.heap.size≤b∨(∃ i p,rb i=some (some p)∧p.1=b)∨mp b)→C.w0.heap.size≤b:=by
  rintro b (h | ⟨i,p,h1,h2⟩ | h)
  ·omega
  ·have:=(N.own i p h1).1; omega
  ·exact (N.map b h).1
 exact {
  kept:=⟨g.kept.os.trans N.kept.os,g.kept.tape.trans N.kept.tape,g.kept.output.trans N.kept.output,by omega,fun b hlt hm=>by
   refine (g.kept.block b (show b<w1.heap.size by omega) ?_).trans (N.kept.block b hlt hm)
   intro h
   have:=mo b (.inr h)
   omega,fun h=>by rw [hdr] at h; cases h⟩
  defers:=g.defers
  size:=g.size
  g0:=fun b o h=>g.g0 b o (N.g0 b o h)
  g1:=fun b o h=>by
   rcases g.g1 b o h with h1 | h1
   ·exact N.g1 b o h1
   ·exact .inr (ajk hs0 h1)
  gw:=g.gw
  tab:=g.tab
  slots:=g.slots
  bG:=fun t=>by rw [hgs]; trivial
  vars:=fun t cs h=>by rw [hvar] at h; cases h
  rows:=fun i r h=>by
   rcases g.rows i r h with h0 | ⟨b,cap,cur,h1,m0,h2⟩
   ·exact .inl h0
   ·exact .inr ⟨b,cap,cur,h1,⟨.inl (mo b m0.1),m0.2⟩,h2⟩
  maps:=fun r m0 h=>by
   obtain ⟨_,a',rfl⟩:=hb.maps r m0 h
   have hM:MapAt w E.G r a':=g.maps r _ h
   exact hM
  boxes:=fun t cs h=>(hb.box t cs h).elim
  vv:=fun t t' cs cs' h=>by rw [hvar] at h; cases h
  rr:=g.rr
  vr:=fun t cs i r p h=>by rw [hvar] at h; cases h
  bb:=fun t t' cs cs' h=>(hb.box t cs h).elim
  bv:=fun t t' cs cs' h=>(hb.box t cs h).elim
  br:=fun t cs i r p h=>(hb.box t cs h).elim
  dU:=fun t b h=>by rw [hvb] at h; cases h
  dN:=fun i p h=>by rw [hrb] at h; cases h
  dD:=fun i r p h h1 h2=>by
   rcases g.rows i r h with ⟨h0,_⟩ | ⟨b,cap,cur,h3,m0,_⟩
   ·rw [h0] at h1; cases h1
   ·rw [h3] at h1; cases h1
    exact mo _ m0.1 }
theorem R.Hw {all:Array Oper} {l:List Oper} {o:Oper} {x y:Operand} {t d j:Nat} {d':PD} {inf:TypeInfo} {z:Value} {bytes:Nat} (hdr:C.dr=false) (N:sJ C w1 G1 rb mp) (H:fV e C.w0.heap.size w1 G1 m hs D) (A:Apart rb m hs) (hbk:vk k=true) (hb:s.Bare C.w0.heap.size)
  (ho:o.op = .call ⟨.builtin .append,#[x,y],#[t,t]⟩) (hg:o.guard=none) (hd:o.dst=some d) (hn:d<s.n) (hj:j<m) (hx:aU s x = .pd (.raw (hs j))) (hy:aU s y = .pd (.list 1 [d'])) (hwd:d'.width=1)
  (hu:P.underlying t=some (.slice e)) (hi:P.info? e=some inf) (hz:inf.zero=some z) (hsz:inf.size=1) (hby:inf.bytes=bytes) (hzs:z.cells.size=1) (hm:(D j).length+1≤maxLen) (hbt:((D j).length+1) * bytes≤140737488355328)
  (next:∀ w2 G2 lS lT v',sJ C w2 G2 lS lT→fV e C.w0.heap.size w2 G2 m (pz hs j v') (pz D j (D j++[d']))→Apart lS m (pz hs j v')→(∀ i,(s.row i).isSome=false→lS i=none)→(∀ r,lQ s r→lT r)→R (Cx.iy P w2 G2 post df lS lT) (.ops all l::k) (s.set d (.pd (.raw v')))):
  R (Cx.iy P w1 G1 post df rb mp) (.ops all (o::l)::k) s:=by
 intro a w E g
 have H1:=N.heads g H A
 have A1:=N.apart g H A
 have hv:a.eval x=hs j:=by have:=aY g x; rw [hx] at this; exact aN.aK this
 have hyv:=aY g y
 rw [hy] at hyv
 obtain ⟨xs,hown,hrd⟩:=(H1.own j hj).xs
 rcases FC g (x:=.pd (.list 1 [d'])) (es:=[d']) rfl hyv (sz:=1) (fun i hi=>by simp at hi; subst hi; simpa using hwd) with ⟨_,h0⟩ | ⟨b2,off,c,news,hy1,hnl,hnc,hn1,hnr⟩
 ·cases h0
 obtain ⟨u,rfl⟩:∃ u,news=[u]:=agj.1 (by simpa using hnl)
 have hu1:u.oneCell'=true:=hn1 u (by simp)
 have hur:Rd w E.G u (d'.cell 0):=by simpa using hnr 0 0 (by simp) (by decide)
 refine Go.Proofs.Z.Dq hg x y t ho e inf z 1 bytes hu hi hz hsz hby hzs (by decide) (hs j) (D j).length xs hv hown ⟨b2,off,none⟩ 1 c [u] hy1 (by simp) hnc (fun v hv=>hn1 v hv) hm hbt ?_
 intro v' w' hown' hgr hblk
 have hrow:∀ b,(hs j).ownBlock=some b→C.w0.heap.size≤b∧(∀ o,¬ E.G b o)∧(∀ i p,iG s E i=some (some p)→p.1≠b)∧∀ r,lQ s r→r≠b:=fun b hb'=>
  ⟨((H1.own j hj).low b hb').1,((H1.own j hj).low b hb').2,fun i p h1 h2=>A1 j i p hj h1 (h2 ▸ hb'),fun r hr' e=>by
   subst e
   obtain ⟨m0,hm⟩:=aho.1 hr'
   obtain ⟨_,a',rfl⟩:=hb.maps r m0 hm
   obtain ⟨_,es,clock,h1,_⟩:MapAt w E.G r a':=g.maps r _ hm
   obtain ⟨_,ho,_⟩:=(H1.own j hj).xs
   obtain ⟨_,_,_,hc,_⟩:=vW ho hb'
   rw [hc] at h1; cases h1⟩
 obtain ⟨N2,hk2,g2⟩:=N.next hdr g hb hgr hrow
 have hs1:w1.heap.size≤w.heap.size:=g.kept.size
 have H2:Head e C.w0.heap.size w' E.G v' (D j++[d']):=(H1.own j hj).more (xs:=xs++[u]) (x:=u) (fun Jf ho0 _=>by
  have:Jf=xs:=by
   rcases ho0.2 with ⟨e1,h1⟩ | ⟨g1,cap,cur,e1,_,hg1,_,_,_,ht1⟩
   ·have h2:=ho0.1; have h3:=hown.1
    rw [h1] at h2 h3
    simp at h2 h3
    rw [h2,h3]
   ·rcases hown.2 with ⟨e2,_⟩ | ⟨g2,cap2,MO,e2,_,hg2,_,_,_,ht2⟩
    ·rw [e1] at e2; cases e2
    ·rw [e1] at e2; cases e2
     rw [hg1] at hg2; cases hg2
     rw [← ht1,← ht2]
  rw [this]) hown' hk2 hu1 hur hwd hgr.size hblk (ajk N.kept.size hs1) g.gw
 have H3:=H1.step hj hgr H2 hblk hk2
 have hA3:Apart (iG s E) m (pz hs j v'):=by
  intro t i p ht hi hb'
  by_cases c:t=j
  ·subst c
   rw [jg] at hb'
   rcases hblk with h1 | h1
   ·rw [h1] at hb'; exact A1 t i p ht hi hb'
   ·rw [h1] at hb'
    unfold iG at hi
    split at hi
    ·rename_i hq
     obtain ⟨r,hq⟩:=aho.1 hq
     have h2:=g.mF hq (p:=p) (by simpa using hi)
     simp only [ad2] at hb'
     omega
    ·cases hi
  ·rw [fG c] at hb'
   exact A1 t i p ht hi hb'
 have hR:=next w' E.G (iG s E) (lQ s) v' N2 H3 hA3 (fun i h=>PI h) (fun _ h=>h)
 have g3:aF (Cx.iy P w' E.G post df (iG s E) (lQ s)) (s.set d (.pd (.raw v'))) (a.put o.dst v') w' E:=by
  rw [hd]
  exact g2.put hn (Rd.raw _ (by
   rcases hown'.2 with ⟨rfl,_⟩ | ⟨_,_,_,rfl,_⟩ <;> rfl)) (by simp)
 have:=hR _ _ _ g3
 have hf:fin (Cx.iy P w' E.G post df (iG s E) (lQ s)) k=fin (Cx.iy P w1 G1 post df rb mp) k:=kJ (C:=Cx.iy P w1 G1 post df rb mp) (C2:=Cx.iy P w' E.G post df (iG s E) (lQ s)) rfl rfl k hbk
 show wpList P all (fin (Cx.iy P w1 G1 post df rb mp) k) l _ _
 rw [← hf]
 exact this
theorem R.VZ {c:Code} {ι:Type} (S:ι→(Nat→Value)→St) (DD:ι→Nat→List PD) (Inv:ι→(Nat→Value)→Prop) (μ:ι→Nat) (i0:ι) (hi0:Inv i0 hs) (N:sJ C w1 G1 rb mp) (H:fV e C.w0.heap.size w1 G1 m hs (DD i0)) (A:Apart rb m hs) (hrb:∀ i,(∀ x h,((S x h).row i).isSome=false)→rb i=none) (hmp:∀ r,(∀ x h,lQ (S x h) r)→mp r) (hs0:s=S i0 hs) (hbk:vk k=true)
  (round:∀ i hs w1 G1 rb mp,Inv i hs→sJ C w1 G1 rb mp→fV e C.w0.heap.size w1 G1 m hs (DD i)→Apart rb m hs→(∀ i,(∀ x h,((S x h).row i).isSome=false)→rb i=none)→(∀ r,(∀ x h,lQ (S x h) r)→mp r) →
   ∀ Q:Exit→Act→World→Prop,
   (∀ j hs' w2 G2 lS lT,Inv j hs'→μ j<μ i→sJ C w2 G2 lS lT→fV e C.w0.heap.size w2 G2 m hs' (DD j)→Apart lS m hs'→(∀ i,(∀ x h,((S x h).row i).isSome=false)→lS i=none)→(∀ r,(∀ x h,lQ (S x h) r)→lT r)→R (Cx.iy P w2 G2 Q df lS lT) [] (S j hs')) →
   (∀ id k',jh id k=some k'→∀ s2 w2 G2 lS lT,R (Cx.iy P w2 G2 post df lS lT) k' s2→∀ a w E,aF (Cx.iy P w2 G2 Q df lS lT) s2 a w E→Q (.exit id) a w) →
   R (Cx.iy P w1 G1 Q df rb mp) [.code c] (S i hs)):R (Cx.iy P w1 G1 post df rb mp) (.code (.loop c)::k) s:=by
 subst hs0
 let I:Nat→Act→World→Prop:=fun n a w=>∃ i hs w1 G1 rb mp E,μ i=n∧Inv i hs∧sJ C w1 G1 rb mp∧fV e C.w0.heap.size w1 G1 m hs (DD i)∧Apart rb m hs∧(∀ i,(∀ x h,((S x h).row i).isSome=false)→rb i=none)∧(∀ r,(∀ x h,lQ (S x h) r)→mp r)∧aF (Cx.iy P w1 G1 post df rb mp) (S i hs) a w E
 refine R.loopS I (μ i0) (fun a w E g=>⟨i0,hs,w1,G1,rb,mp,E,rfl,hi0,N,H,A,hrb,hmp,g⟩) ?_
 rintro n a w ⟨i,hs,w1',G1',rb',mp',E,rfl,hI,N,H,A,aoX,aoY,g⟩
 have hf:∀ w2 G2 lS lT,fin (Cx.iy P w2 G2 post df lS lT) k=fin (Cx.iy P w1 G1 post df rb mp) k:=fun w2 G2 lS lT=>kJ (C:=Cx.iy P w1 G1 post df rb mp) (C2:=Cx.iy P w2 G2 post df lS lT) rfl rfl k hbk
 refine (round i hs w1' G1' rb' mp' hI N H A aoX aoY (Exit.then (fun a' w'=>∃ n',n' < μ i∧I n' a' w') (fin (Cx.iy P w1 G1 post df rb mp) k)) ?_ ?_) a w E g.Hu
 ·intro j hs' w2 G2 lS lT hj hlt N2 H2 A2 Ak ES a' w' E' g'
  exact ⟨μ j,hlt,j,hs',w2,G2,lS,lT,E',rfl,hj,N2,H2,A2,Ak,ES,g'.Hu⟩
 ·intro id k' he s2 w2 G2 lS lT hR a' w' E' g'
  show fin (Cx.iy P w1 G1 post df rb mp) k (.exit id) a' w'
  rw [← hf w2 G2 lS lT]
  exact sW he a' w' (hR a' w' E' g'.Hu)
theorem R.aeB (m:Nat) (e:TypeId) (hdr:C.dr=false) (hmu:∀ b,¬ C.mu b) (hb:s.Bare C.w0.heap.size) (hbk:vk k=true)
  (next:∀ w G rb mp,sJ C w G rb mp→fV e C.w0.heap.size w G m (fun _=>.slice none 0 0) (fun _=>[])→Apart rb m (fun _=>.slice none 0 0)→(∀ i,(s.row i).isSome=false→rb i=none)→(∀ r,lQ s r→mp r)→R (Cx.iy C.P w G C.post C.df rb mp) k s):R C k s:=by
 intro a w E g
 obtain ⟨N,g'⟩:=g.aoW (post:=C.post) hdr hmu hb
 have:=next w E.G (iG s E) (lQ s) N ⟨fun _ _=>Head.nil,fun _ _ _ _ _ _ h=>by cases h⟩ (fun _ _ _ _ _ h=>by cases h) (fun i h=>PI h) (fun _ h=>h) a w E g'
 rwa [kJ (C:=C) (C2:=Cx.iy C.P w E.G C.post C.df (iG s E) (lQ s)) rfl rfl k hbk] at this
theorem R.aj0 {i:Nat} {e2:TypeId} (hdr:C.dr=false) (hvb:C.vb0=fun _=>none) (hrb:C.iH=fun _=>none) (N:sJ C w1 G1 rb mp) (H:fV e C.w0.heap.size w1 G1 m hs D) (A:Apart rb m hs) (hb:s.Bare C.w0.heap.size) (hbk:vk k=true)
  (hr:s.row i=some ⟨e2,1,(agi m).map fun t=>.raw (hs t)⟩) (next:R C k (s.setRow i ⟨e2,1,(agi m).map fun t=>.list 1 (D t)⟩)):R (Cx.iy C.P w1 G1 C.post C.df rb mp) k s:=by
 intro a w E g
 have H1:=N.heads g H A
 have A1:=N.apart g H A
 have g0:=N.back hdr hvb hrb rfl rfl g hb
 rw [kJ (C:=C) (C2:=Cx.iy C.P w1 G1 C.post C.df rb mp) rfl rfl k hbk]
 have hk:Keeps w E.G w (fV.pub E.G m hs):=⟨fun _ _ h=>.inl h,fun _ _ _=>rfl,fun _ _ _=>rfl⟩
 have hvar:∀ t,s.var t=none:=fun t=>by simp [St.var,hb.vars,lk]
 have hgs:∀ t,s.fH t = .dead:=fun t=>by simp [St.fH,hb.gs,lk]
 have hrow:∀ j r',(s.setRow i ⟨e2,1,(agi m).map fun t=>.list 1 (D t)⟩).row j=some r'→(j=i∧r'=⟨e2,1,(agi m).map fun t=>.list 1 (D t)⟩)∨(j≠i∧s.row j=some r'):=by
  intro j r' h
  simp only [St.row,St.setRow,jO] at h
  split at h
  ·exact .inl ⟨by assumption,(aso h).symm⟩
  ·exact .inr ⟨by assumption,h⟩
 have hex:∀ j r',(s.setRow i ⟨e2,1,(agi m).map fun t=>.list 1 (D t)⟩).row j=some r'→∃ r0,s.row j=some r0∧r0.sz=r'.sz∧r0.ds.length=r'.ds.length:=by
  intro j r' h
  rcases hrow j r' h with ⟨rfl,rfl⟩ | ⟨_,h⟩
  ·exact ⟨_,hr,rfl,by simp⟩
  ·exact ⟨r',h,rfl,rfl⟩
 have hrel:∀ v x,Rel C.P w E s.row v x→Rel C.P w { E with G:=fV.pub E.G m hs } (s.setRow i ⟨e2,1,(agi m).map fun t=>.list 1 (D t)⟩).row v x:=fun v x h=>(h.keep (E':={ E with G:=fV.pub E.G m hs }) hk rfl rfl).rowLen hex
 have Ak:∀ j r p,s.row j=some r→E.rb j=some p→iG s E j=some (some p):=fun j r p h1 h2=>by unfold iG; rw [h1]; exact (adA (by rfl:(some r).isSome=true)).trans (congrArg some h2)
 have mo:∀ {j r b cap cur ty},s.row j=some r→E.rb j=some (b,cap)→Mine C E.G w b cur ty→Mine C (fV.pub E.G m hs) w b cur ty:=fun {j r b cap cur ty} h1 h2 m0=>⟨m0.1,fun o ho=>by
  rcases ho with ho | ⟨t,ht,ho⟩
  ·exact m0.2.1 o ho
  ·exact A1 t j (b,cap) ht (Ak j r _ h1 h2) ho,m0.2.2⟩
 refine next a w { E with G:=fV.pub E.G m hs } ?_
 have hold:∀ j r',(s.setRow i ⟨e2,1,(agi m).map fun t=>.list 1 (D t)⟩).row j=some r'→∃ r0,s.row j=some r0:=fun j r' h=>by obtain ⟨r0,h0,_⟩:=hex j r' h; exact ⟨r0,h0⟩
 exact {
  kept:=g0.kept
  defers:=g0.defers
  size:=g0.size
  g0:=fun b o h=>.inl (g0.g0 b o h)
  g1:=fun b o h=>by
   rcases h with h | ⟨t,ht,h⟩
   ·exact g0.g1 b o h
   ·exact .inr ((H1.own t ht).low b h).1
  gw:=fun b o h=>by
   rcases h with h | ⟨t,ht,h⟩
   ·exact g0.gw b o h
   ·exact (H1.own t ht).lt h
  tab:=g0.tab.keep hk
  slots:=fun t=>hrel _ _ (g0.slots t)
  bG:=fun t=>by
   show Rel _ _ _ _ _ (s.fH t)
   rw [hgs]; trivial
  vars:=fun t cs h=>by
   have h:s.var t=some cs:=h
   rw [hvar] at h; cases h
  rows:=fun j r' h=>by
   rcases hrow j r' h with ⟨rfl,rfl⟩ | ⟨_,h⟩
   ·rcases g0.rows j _ hr with ⟨h1,h2⟩ | ⟨b,cap,cur,h1,m0,h2,h3,h4,h5,h6⟩
    ·refine .inl ⟨h1,?_⟩
     have:(agi m).length=0:=by have:=congrArg af0 h2; simpa using this
     simp at this
     subst this; rfl
    ·refine .inr ⟨b,cap,cur,h1,mo hr h1 m0,h2,by simpa using h3,h4,fun q hq=>?_,fun q u hq hu=>?_⟩
     ·simp only [adu,arU] at hq
      simp [hq,PD.width]
     ·simp only [adu,arU] at hq
      have hx:=h6 q u (by simpa using hq) hu
      obtain rfl:u=0:=by simp only at hu; omega
      have e1:((agi m).map fun t=>PD.raw (hs t)).getD q (.ak []) = .raw (hs q):=by simp [hq]
      have e3:((agi m).map fun t=>PD.list 1 (D t)).getD q (.ak []) = .list 1 (D q):=by simp [hq]
      simp only [e1] at hx
      simp only [e3]
      have hx:cur.getD (q * 1+0) undef=hs q:=aN.aK hx
      rw [hx]
      exact H1.reads q hq
   ·rcases g0.rows j r' h with h0 | ⟨b,cap,cur,h1,m0,h2,h3,h4,h5,h6⟩
    ·exact .inl h0
    ·exact .inr ⟨b,cap,cur,h1,mo h h1 m0,h2,h3,h4,h5,fun q u hq hu=>(h6 q u hq hu).keep hk⟩
  maps:=fun r m0 h=>by
   have h:s.map r=some m0:=h
   obtain ⟨_,a',rfl⟩:=hb.maps r m0 h
   have hM:MapAt w E.G r a':=g0.maps r _ h
   exact MapAt.keep hk (fun o ho=>by
    rcases ho with ho | ⟨t,ht,ho⟩
    ·exact hM.1 o ho
    ·obtain ⟨_,es,clock,h1,_⟩:=hM
     obtain ⟨_,ho',_⟩:=(H1.own t ht).xs
     obtain ⟨_,_,_,hc,_⟩:=vW ho' ho
     rw [hc] at h1; cases h1) rfl hM
  boxes:=fun t cs h=>(hb.box t cs h).elim
  vv:=fun t t' cs cs' h=>by
   have h:s.var t=some cs:=h
   rw [hvar] at h; cases h
  rr:=fun j j' r r' p h h' hp p' hp' e=>by
   obtain ⟨q,hq⟩:=hold j r h
   obtain ⟨q',hq'⟩:=hold j' r' h'
   exact g0.rr j j' q q' p hq hq' hp p' hp' e
  vr:=fun t cs i r p h=>by
   have h:s.var t=some cs:=h
   rw [hvar] at h; cases h
  bb:=fun t t' cs cs' h=>(hb.box t cs h).elim
  bv:=fun t t' cs cs' h=>(hb.box t cs h).elim
  br:=fun t cs i r p h=>(hb.box t cs h).elim
  dU:=g0.dU
  dN:=g0.dN
  dD:=fun j r p h h1 h2=>by
   obtain ⟨q,hq⟩:=hold j r h
   exact g0.dD j q p hq h1 h2 }
theorem R.afD {r u:Nat} {key:Nat→Value} (hu:u≤m) (hdr:C.dr=false) (hvb:C.vb0=fun _=>none) (hrb:C.iH=fun _=>none) (N:sJ C w1 G1 rb mp) (H:fV e C.w0.heap.size w1 G1 m hs D) (A:Apart rb m hs) (hb:s.Bare C.w0.heap.size) (hbk:vk k=true)
  (hr:s.map r=some (dX.map ((agi u).map fun t=>(key t,PD.raw (hs t))))) (next:R C k { s with maps:=Go.au.up r (dX.map ((agi u).map fun t=>(key t,.list 1 (D t)))) s.maps }):R (Cx.iy C.P w1 G1 C.post C.df rb mp) k s:=by
 intro a w E g
 have H1:=N.heads g H A
 have A1:=N.apart g H A
 have g0:=N.back hdr hvb hrb rfl rfl g hb
 rw [kJ (C:=C) (C2:=Cx.iy C.P w1 G1 C.post C.df rb mp) rfl rfl k hbk]
 have hk:Keeps w E.G w (fV.pub E.G m hs):=⟨fun _ _ h=>.inl h,fun _ _ _=>rfl,fun _ _ _=>rfl⟩
 have hvar:∀ t,s.var t=none:=fun t=>by simp [St.var,hb.vars,lk]
 have hgs:∀ t,s.fH t = .dead:=fun t=>by simp [St.fH,hb.gs,lk]
 have hrel:∀ v x,Rel C.P w E s.row v x→Rel C.P w { E with G:=fV.pub E.G m hs } s.row v x:=fun v x h=>h.keep (E':={ E with G:=fV.pub E.G m hs }) hk rfl rfl
 have Ak:∀ j r p,s.row j=some r→E.rb j=some p→iG s E j=some (some p):=fun j r p h1 h2=>by unfold iG; rw [h1]; exact (adA (by rfl:(some r).isSome=true)).trans (congrArg some h2)
 have mo:∀ {j r b cap cur ty},s.row j=some r→E.rb j=some (b,cap)→Mine C E.G w b cur ty→Mine C (fV.pub E.G m hs) w b cur ty:=fun {j r b cap cur ty} h1 h2 m0=>⟨m0.1,fun o ho=>by
  rcases ho with ho | ⟨t,ht,ho⟩
  ·exact m0.2.1 o ho
  ·exact A1 t j (b,cap) ht (Ak j r _ h1 h2) ho,m0.2.2⟩
 have free:∀ {b a'},MapAt w E.G b a'→∀ o,¬ fV.pub E.G m hs b o:=by
  intro b a' hM o ho
  rcases ho with ho | ⟨t,ht,ho⟩
  ·exact hM.1 o ho
  ·obtain ⟨_,es,clock,h1,_⟩:=hM
   obtain ⟨_,ho',_⟩:=(H1.own t ht).xs
   obtain ⟨_,_,_,hc,_⟩:=vW ho' ho
   rw [hc] at h1; cases h1
 refine next a w { E with G:=fV.pub E.G m hs } ?_
 exact {
  kept:=g0.kept
  defers:=g0.defers
  size:=g0.size
  g0:=fun b o h=>.inl (g0.g0 b o h)
  g1:=fun b o h=>by
   rcases h with h | ⟨t,ht,h⟩
   ·exact g0.g1 b o h
   ·exact .inr ((H1.own t ht).low b h).1
  gw:=fun b o h=>by
   rcases h with h | ⟨t,ht,h⟩
   ·exact g0.gw b o h
   ·exact (H1.own t ht).lt h
  tab:=g0.tab.keep hk
  slots:=fun t=>hrel _ _ (g0.slots t)
  bG:=fun t=>by
   show Rel _ _ _ _ _ (s.fH t)
   rw [hgs]; trivial
  vars:=fun t cs h=>by
   have h:s.var t=some cs:=h
   rw [hvar] at h; cases h
  rows:=fun j r' h=>by
   have h:s.row j=some r':=h
   rcases g0.rows j r' h with h0 | ⟨b,cap,cur,h1,m0,h2,h3,h4,h5,h6⟩
   ·exact .inl h0
   ·exact .inr ⟨b,cap,cur,h1,mo h h1 m0,h2,h3,h4,h5,fun q u hq hu=>(h6 q u hq hu).keep hk⟩
  maps:=fun q m0 h=>by
   simp only [St.map,jO] at h
   split at h
   ·rename_i hq
    subst hq
    cases h
    have hM:MapAt w E.G q ((agi u).map fun t=>(key t,.raw (hs t))):=g0.maps q _ hr
    have hf:=free hM
    obtain ⟨_,es,clock,h1,h2,h3,h4,h5,h6⟩:=hM
    refine ⟨hf,es,clock,h1,by simpa using h2,fun i hi=>?_,h4,h5,by simpa [apC,Function.comp_def] using h6⟩
    simp only [adu,arU] at hi
    obtain ⟨k1,k2⟩:=h3 i (by simpa using hi)
    have e1:((agi u).map fun t=>(key t,PD.raw (hs t))).getD i (undef,.ak [])=(key i,.raw (hs i)):=by simp [hi]
    have e2:((agi u).map fun t=>(key t,PD.list 1 (D t))).getD i (undef,.ak [])=(key i,.list 1 (D i)):=by simp [hi]
    rw [e1] at k1 k2
    rw [e2]
    refine ⟨k1,?_⟩
    rw [aN.aK k2]
    exact H1.reads i (by omega)
   ·have h:s.map q=some m0:=h
    obtain ⟨_,a',rfl⟩:=hb.maps q m0 h
    have hM:MapAt w E.G q a':=g0.maps q _ h
    exact MapAt.keep hk (free hM) rfl hM
  boxes:=fun t cs h=>(hb.box t cs h).elim
  vv:=fun t t' cs cs' h=>by
   have h:s.var t=some cs:=h
   rw [hvar] at h; cases h
  rr:=g0.rr
  vr:=fun t cs i r p h=>by
   have h:s.var t=some cs:=h
   rw [hvar] at h; cases h
  bb:=fun t t' cs cs' h=>(hb.box t cs h).elim
  bv:=fun t t' cs cs' h=>(hb.box t cs h).elim
  br:=fun t cs i r p h=>(hb.box t cs h).elim
  dU:=g0.dU
  dN:=g0.dN
  dD:=g0.dD }
end
def late (i:Nat) (js:List Nat) (all:Array Oper):Array Oper:=all.mapIdx fun j o=>if js.contains j then { o with after:=o.after.push ⟨i,o.after.back?.map (·.ground) |>.getD default⟩ } else o
section
variable {P:Program} {all:Array Oper} {Q:Exit→Act→World→Prop} {i:Nat} {js:List Nat}
theorem J5 (j:Nat):(late i js all)[j]? = (all[j]?).map fun o=>if js.contains j then { o with after:=o.after.push ⟨i,o.after.back?.map (·.ground) |>.getD default⟩ } else o:=by
 unfold late
 rw [Array.getElem?_mapIdx]
theorem adl (g:Nat):((late i js all)[g]?).bind (·.dst)=(all[g]?).bind (·.dst):=by
 rw [J5]
 cases all[g]? with
 | none=>rfl
 | some o=>
  simp only [ajr,ap7]
  split <;> rfl
theorem Uj (t:Array Value):yielded (late i js all) t=yielded all t:=by
 funext g
 unfold yielded
 rw [adl]
theorem PK (j:Nat) (K:Act→World→Prop) (a:Act) (w:World):wpOp P (late i js all) Q j K a w↔wpOp P all Q j K a w:=by
 unfold wpOp
 rw [J5,Uj]
 cases all[j]? with
 | none=>exact Iff.rfl
 | some o=>
  simp only [ajr]
  split <;> exact Iff.rfl
theorem Am (L:Array Bool) (hL:L.getD i false=true):aqj .any (late i js all) L=aqj .any all L:=by
 unfold aqj
 have hs:(late i js all).size=all.size:=by unfold late; simp
 rw [hs]
 refine avP fun j _=>?_
 rw [J5]
 cases all[j]? with
 | none=>rfl
 | some o=>
  simp only [ajr,agd]
  split
  ·rw [Array.all_push]
   simp only [hL,av8,avN]
  ·rfl
theorem P8 {L:Array Bool} {i j:Nat} (h:L.getD i false=true):(L.setIfInBounds j true).getD i false=true:=getD_set_true h
theorem Uk:∀ (fuel:Nat) (L:Array Bool) (a:Act) (w:World),L.getD i false=true→wpAny P .any (late i js all) Q fuel L a w→wpAny P .any all Q fuel L a w
 | 0,L,a,w,hL,h=>by
  simp only [wpAny] at h ⊢
  rw [Am L hL] at h
  exact h
 | fuel+1,L,a,w,hL,h=>by
  simp only [wpAny] at h ⊢
  rw [Am L hL] at h
  exact ⟨h.1,fun j hj=>wpOp_mono (fun a w h'=>Uk fuel _ a w (P8 hL) h') ((PK j _ a w).1 (h.2 j hj))⟩
theorem aaX {x:Operand} {oi:Oper} {fuel:Nat} {L:Array Bool} {a:Act} {w:World} (hi:all[i]? = some oi) (hop:oi.op = .move x) (hg:oi.guard=none) (hns:azh all=true) (hf:Region.free .any all L i=true) (hr:(aqj .any all L).contains i=true)
  (hr2:(aqj .any (late i js all) L).contains i=true) (hlt:i<L.size) (hQ:∀ c a' w',¬ Q (.panic c) a' w') (h:wpAny P .any (late i js all) Q (fuel+1) L a w):wpAny P .any all Q (fuel+1) L a w:=by
 have hy:Yields P all oi (a.eval x) a:=.inl ⟨by simp [aqh,hg],fun w=>by simp [execOp,hop]⟩
 refine wpAny_take hi hns hf hr (fun c a' w' h=>(hQ _ _ _ h).elim) hy ?_
 refine Uk (i:=i) (js:=js) fuel _ _ _ (by simp [hlt]) ?_
 have h1:=(PK i _ a w).1 (h.2 i (by simpa using hr2))
 unfold wpOp at h1
 simp only [hi] at h1
 have hw:aqh oi (yielded all a.tmps)=true:=by simp [aqh,hg]
 rw [adA hw] at h1
 rcases h1 with h1 | ⟨h1,_⟩
 ·simpa [Oper.wp,execOp,hop,Oper.upon] using h1
 ·exfalso
  simp [Oper.asks,execOp,hop] at h1
  have h1:noRoomEvent∈(#[]:Array Event):=h1
  simp at h1
theorem PL:(late i js all).size=all.size:=by simp [late]
theorem UW:(late i js all).toList=all.toList.mapIdx fun j o=>if js.contains j then { o with after:=o.after.push ⟨i,o.after.back?.map (·.ground) |>.getD default⟩ } else o:=by simp [late]
def Qn (i:Nat) (js:List Nat) (all:Array Oper):Bool:=
 (match all[i]? with | some o=>(match o.op with | .move _=>o.guard.isNone | _=>false) | none=>false)&&azh all&&Region.free .any all (afQ all.size false) i&&(aqj .any all (afQ all.size false)).contains i&&(aqj .any (late i js all) (afQ all.size false)).contains i
theorem V3 {a:Act} {w:World} (h:Qn i js all=true) (hQ:∀ c a' w',¬ Q (.panic c) a' w') (hw:wpAny P .any (late i js all) Q all.size (afQ all.size false) a w):wpAny P .any all Q all.size (afQ all.size false) a w:=by
 unfold Qn at h
 simp only [af5] at h
 obtain ⟨⟨⟨⟨h1,h2⟩,h3⟩,h4⟩,h5⟩:=h
 split at h1
 ·rename_i o ho
  split at h1
  ·rename_i x hop
   have hlt:i<all.size:=(ad6.1 ho).1
   obtain ⟨f,hf⟩:∃ f,all.size=f+1:=⟨all.size - 1,by omega⟩
   rw [hf] at hw h3 h4 h5 ⊢
   exact aaX ho hop (by simpa using h1) h2 h3 h4 h5 (by simp; omega) hQ hw
  ·cases h1
 ·cases h1
end
theorem R.afE {P:Program} {w1:World} {G1:Pub} {post:Exit→Act→World→Prop} {df:List Deferred} {rb:Nat→Option (Option (Nat × Nat))} {mp:Nat→Prop} {k:List KI} {s:St} {id:Nat} {all:Array Oper} (i1 i2:Nat) (js:List Nat) (n m:Nat) (hm:P.follows .mixedOrders=true)
  (h1:Qn i1 js all=true) (h2:Qn i2 js (late i1 js all)=true) (hB:xC (late i2 js (late i1 js all)) n=true) (hbk:vk k=true)
  (h:∀ post':Exit→Act→World→Prop,(∀ s2 w2 G2 lS lT,R (Cx.iy P w2 G2 post df lS lT) k s2→R (Cx.iy P w2 G2 post' df lS lT) [] s2) →
   CY (Cx.iy P w1 G1 post' df rb mp) (late i2 js (late i1 js all)) ((late i2 js (late i1 js all)).toList.drop n) [] m ((late i2 js (late i1 js all)).toList.take n) s):R (Cx.iy P w1 G1 post df rb mp) (.code (.region id all true)::k) s:=by
 intro a w E g
 have hc:∀ s2 w2 G2 lS lT,R (Cx.iy P w2 G2 post df lS lT) k s2→R (Cx.iy P w2 G2 (fun e a w=>e = .normal∧fin (Cx.iy P w1 G1 post df rb mp) k .normal a w) df lS lT) [] s2:=by
  intro s2 w2 G2 lS lT hR a w E g
  refine ⟨rfl,?_⟩
  have:=hR a w E g.Hu
  rwa [kJ (C:=Cx.iy P w1 G1 post df rb mp) (C2:=Cx.iy P w2 G2 post df lS lT) rfl rfl k hbk] at this
 have hwp:=QZ n m hB (h _ hc) g.Hu
 have hQ:∀ c a' w',¬ fin (Cx.iy P w1 G1 (fun e a w=>e = .normal∧fin (Cx.iy P w1 G1 post df rb mp) k .normal a w) df rb mp) [] (.panic c) a' w':=fun c a' w' h=>by cases h.1
 rw [PL] at hwp
 have h3:=V3 h2 hQ hwp
 rw [PL] at h3
 have h4:=V3 h1 hQ h3
 refine wp_mono (wp_region_any hm h4) ?_
 rintro e a' w' ⟨rfl,hq⟩
 exact hq
end Go.au
end
section
namespace Go.Proofs.Z
open Go Go.au Go.Proofs
set_option maxRecDepth 10000
set_option maxHeartbeats 4000000
set_option maxHeartbeats 8000000
theorem amY:aH aai 29:=fun _ _=>by kernel_rfl
def MJ:List (Nat × SV)→Bool
 | []=>true
 | (_,.box _)::_=>false
 | _::l=>MJ l
theorem Ul {t:Nat} {cs:List Value}:∀ {l:List (Nat × SV)},MJ l=true→lk t l≠some (.box cs)
 | [],_=>by simp [lk]
 | (i,x)::l,h=>by
  have h2:MJ l=true:=by cases x <;> first | exact h | cases h
  simp only [lk]
  split
  ·intro e
   cases e
   cases h
  ·exact Ul h2
theorem Io {s:St} {n0:Nat} (h1:s.vars=[]) (h2:s.maps=[]) (h3:s.gs=[]) (h4:MJ s.slots=true):s.Bare n0 where
 vars:=h1
 maps:=fun r m h=>by rw [St.map,h2] at h; simp [lk] at h
 gs:=h3
 box:=fun t cs h=>by
  unfold St.get at h
  cases e:lk t s.slots with
  | none=>rw [e] at h; cases h
  | some x=>
   rw [e] at h
   have h:x = .box cs:=h
   exact Ul (t:=t) (cs:=cs) h4 (by rw [e,h])
def pK (facts:List bF) (S:List Int) (t:Nat):List (List V):=S.filterMap (rowAt facts t)
def DT (facts:List bF) (S:List Int) (k t:Nat):List PD:=(pK facts (S.take k) t).map vals
theorem afF {facts:List bF} {S:List Int} {k:Nat} (hk:k<S.length) (h:¬ (0≤S[k]∧S[k].toNat<facts.length)):DT facts S (k+1)=DT facts S k:=by
 funext t
 unfold DT pK
 have:rowAt facts t S[k]=none:=by
  unfold rowAt
  split
  ·rename_i h0
   rw [ao6 (by omega)]; rfl
  ·rfl
 rw [aaG hk,aty]
 simp [this]
theorem afG {facts:List bF} {S:List Int} {k i j:Nat} (hk:k<S.length) (hS:S[k]=(i:Int)) (hi:i<facts.length) (ht:facts[i].table=(j:Int)):DT facts S (k+1)=pz (DT facts S k) j (DT facts S k j++[vals facts[i].row]):=by
 funext t
 have hrow:rowAt facts t S[k]=if t=j then some facts[i].row else none:=by
  unfold rowAt
  rw [hS,adA (by omega),Int.toNat_natCast,af4 hi,ap7,ht]
  by_cases c:t=j
  ·rw [adA (by omega),adA c]
  ·rw [adt (by omega),adt c]
 have e:DT facts S (k+1) t=DT facts S k t++(if t=j then [vals facts[i].row] else []):=by
  unfold DT pK
  rw [aaG hk,aty,aei]
  congr 1
  by_cases c:t=j
  ·rw [adA c] at hrow ⊢; simp [hrow]
  ·rw [adt c] at hrow ⊢; simp [hrow]
 rw [e]
 by_cases c:t=j
 ·subst c; rw [adA rfl,jg]
 ·rw [adt c,fG c,ao3]
theorem aj1 (facts:List bF) (S:List Int) (k t:Nat):(DT facts S k t).length≤S.length:=by
 unfold DT pK
 rw [adu]
 have h1:=aqN (rowAt facts t) (S.take k)
 rw [anc] at h1; omega
theorem Yf {facts:List bF} {S:List Int} {t:Nat} {r:List V} (h:r∈pK facts S t):∃ f∈facts,f.row=r:=by
 obtain ⟨i,_,h⟩:=anp.1 h
 unfold rowAt at h
 split at h
 ·obtain ⟨f,hf,h⟩:=as1.1 h
  split at h
  ·exact ⟨f,avb hf,by simpa using h⟩
  ·cases h
 ·cases h
def TS (facts:List bF) (S:List Int) (n k:Nat):List (List (List V)):=(agi n).map fun t=>if t<k then wS facts S t else pK facts S t
theorem aj2 {facts:List bF} {S:List Int} {n k:Nat} (hk:k<n):((TS facts S n k).map cO).set k (cO (wS facts S k))=(TS facts S n (k+1)).map cO:=by
 apply am8
 ·simp [TS]
 ·intro i h1 h2
  simp only [TS,apC,apX,atC,aus,Function.comp]
  by_cases c:k=i
  ·subst c; rw [adA rfl,adA (by omega)]
  ·rw [adt c]
   by_cases d:i<k
   ·rw [adA d,adA (by omega)]
   ·rw [adt d,adt (by omega)]
theorem Hy (facts:List bF) (S:List Int) (n k:Nat):(TS facts S n k).length=n:=by simp [TS]
theorem amZ {facts:List bF} {S:List Int} {n k:Nat} (hk:k<n):(TS facts S n k)[k]'(by rw [Hy]; exact hk)=pK facts S k:=by simp [TS]
theorem afH (tl:List bH) (facts:List bF) (S:List Int):TS facts S tl.length tl.length=bI tl facts S:=by
 unfold TS bI
 refine ajh fun t ht=>?_
 rw [adA (arh.1 ht)]
theorem adn (facts:List bF) (S:List Int) (n:Nat):(TS facts S n 0).map cO=(agi n).map fun t=>PD.list 1 (DT facts S S.length t):=by
 unfold TS DT
 rw [apC]
 refine ajh fun t _=>?_
 simp
theorem V4:(aai.info? 37).map (fun i=>(i.zero,i.size,i.bytes))=some (some (.slice none 0 0),1,24):=by kernel_rfl
theorem afI:(aai.info? 47).map (fun i=>(i.zero,i.size,i.bytes))=some (some (.slice none 0 0),1,24):=by kernel_rfl
theorem aaY {n j:Nat} (f:Nat→Value) (v:Value) (hj:j<n):((agi n).map fun t=>PD.raw (f t)).set j (.raw v)=(agi n).map fun t=>PD.raw (pz f j v t):=by
 apply am8
 ·simp
 ·intro i h1 h2
  simp only [apX,atC,aus]
  by_cases c:j=i
  ·subst c; rw [adA rfl,jg]
  ·rw [adt c,fG (fun e=>c e.symm)]
def ST (tl:List bH) (facts:List bF) (S:List Int) (k:Nat) (hs:Nat→Value):St:=⟨74,[(1,.pd (eY facts)),(7,.own 7),(16,.pd (ints S)),(17,.pd (I S.length)),(18,.pd (I k))],[],[(7,⟨47,1,(agi tl.length).map fun t=>.raw (hs t)⟩)],[],[]⟩
theorem aaZ (tl:List bH) (facts:List bF) (S:List Int) (hf:iT tl facts) (htl:tl.length≤100000000) (hS:S.length≤1000000) (hr:∀ f∈facts,f.row.length≤1000000000):aT aai 29 [.pd (schema tl),.pd (eY facts),.pd (ints S)] [jD (bI tl facts S)]:=by
 obtain ⟨i0,hi1,hz,hsz,hby⟩:=info_parts V4
 refine aT.mk Tryz.func29 rfl amY (by simp [Tryz.ntmps29]) fun w G=>?_
 refine aQk ?_
 refine R.dw 3 (schema tl) rfl (fun _ h=>h) rfl ?_
 simp only [go_sem,St.dw,SV.dw]
 refine aQk ?_
 refine R.Vz (d:=15) 7 rfl rfl rfl rfl (by (simp only [go_sem])) rfl rfl abA afI rfl rfl (by omega) (by unfold maxLen; omega) ?_
 refine aQk ?_
 have hrep:List.replicate tl.length (PD.raw (.slice none 0 0))=(agi tl.length).map fun _=>PD.raw (.slice none 0 0):=by
  apply am8
  ·simp
  ·intro i h1 h2; simp
 rw [hrep]
 refine R.to (ST tl facts S 0 fun _=>.slice none 0 0) (by ((simp only [go_sem,ST])); all_goals (and_intros <;> rfl)) ?_
 refine R.aeB tl.length 37 rfl (fun b h=>h) (Io rfl rfl rfl rfl) rfl ?_
 intro w1 G1 rb mp N H A hrb hmp
 refine R.VZ (e:=37) (ST tl facts S) (DT facts S) (fun k _=>k≤S.length) (fun k=>S.length - k) 0 (by omega) N H A (fun i h=>hrb i (h 0 _)) (fun r h=>hmp r (h 0 _)) rfl rfl ?_
 clear H A N hrb hmp w1 G1 rb mp
 intro k hs w1 G1 rb mp hk N H A hrb hmp Q hnext Qo
 unfold ST
 by_cases hlt:k<S.length
 ·have f1:decide ((k:Int)<(S.length:Int))=true:=by simp; omega
  by_cases hin:0≤S[k]∧S[k].toNat<facts.length
  ·obtain ⟨hq0,hq⟩:=hin
   have hcast:((S[k].toNat:Nat):Int)=S[k]:=ap6 hq0
   generalize S[k].toNat=q at hq hcast
   obtain ⟨ht0,hth,_⟩:=hf.2 _ (aaO hq)
   have htc:((facts[q].table.toNat:Nat):Int)=facts[q].table:=ap6 ht0
   generalize facts[q].table.toNat=j at hth htc
   have hD:=afG hlt hcast.symm hq htc.symm
   have hDl:=aj1 facts S k j
   have hrl:=hr _ (aaO hq)
   have g1:decide ((q:Int)<0)=false:=by simp
   have g2:decide ((q:Int)≥(facts.length:Int))=false:=by simp; omega
   have g3:decide ((j:Int)≥0)=true:=by simp
   have g4:decide ((j:Int)<(tl.length:Int))=true:=by simp; omega
   have hln:((agi tl.length).map fun t=>PD.raw (hs t)).length=tl.length:=by simp
   have hat:((agi tl.length).map fun t=>PD.raw (hs t)).getD j (.ak []) = .raw (hs j):=by simp [hth]
   have hsr:=fun v=>aaY (n:=tl.length) hs v hth
   have hst:∀ v:Value,spl (.raw (hs j)) 0 (.raw v) = .raw v:=fun _=>rfl
   apply aj; simp only [go_sem,↓reduceIte,f1,getD_map,hlt,← hcast,hq,← htc,g1,g2,g3,g4,pJ,uI,uJ,hln,arU]
   repeat refine ⟨by omega,?_⟩
   refine R.afE 0 1 [13] 13 80 mixed (by decide +kernel) (by decide +kernel) (by decide +kernel) rfl ?_
   intro post' hpost
   simp only [UW,List.mapIdx_cons,List.mapIdx_nil,List.take_succ_cons,List.take_zero,atX,atl,aq6,List.contains_nil,Nat.reduceAdd,Nat.reduceBEq,avK,aj9,ajs,aiq,auR]
   simp only [go_sem,pJ,uI,uJ,getD_map,hq,hat,hln]
   repeat refine ⟨by omega,?_⟩
   refine RY.kW (Po facts[q].row hrl) rfl rfl (.cons (.pd _) (.nil)) ?_
   (refine aZ 80 _ _ ?_; simp only [go_sem,pJ,uI,uJ])
   repeat refine ⟨by omega,?_⟩
   refine R.Hw (j:=j) rfl N H A rfl (Io rfl rfl rfl rfl) rfl rfl rfl (by (simp only [go_sem])) hth rfl rfl rfl (iE lY) hi1 hz hsz hby rfl (by unfold maxLen; omega) (by omega) ?_
   intro w2 G2 lS lT v' N2 H2 A2 Ak ES
   apply aj; simp only [go_sem,↓reduceIte,pJ,uI,uJ,hat,hln]
   repeat refine ⟨by omega,?_⟩
   rw [hst,hsr]
   refine hpost _ _ _ _ _ ?_
   apply aj; simp only [go_sem,↓reduceIte,pJ,uI,uJ,wrapN (k:=k) (by omega)]
   refine R.to (ST tl facts S (k+1) (pz hs j v')) (by ((simp only [go_sem,ST])); all_goals (and_intros <;> rfl)) (hnext (k+1) _ _ _ _ _ (by omega) (by omega) N2 (by rw [hD]; exact H2) A2 (fun i h=>Ak i ?_) (fun r h=>ES r ?_))
   ·exact h 0 hs
   ·exact h 0 hs
  ·have hD:=afF hlt hin
   have hg:(if decide (S[k]<0)=true then true else decide (S[k]≥(facts.length:Int)))=true:=by
    by_cases c:S[k]<0
    ·simp [c]
    ·simp [c]; omega
   by_cases c:S[k]<0
   ·have g1:decide (S[k]<0)=true:=by simpa using c
    apply aj; simp only [go_sem,↓reduceIte,f1,getD_map,hlt,g1,pJ,uI,uJ,wrapN (k:=k) (by omega)]
    repeat refine ⟨by omega,?_⟩
    refine R.to (ST tl facts S (k+1) hs) (by ((simp only [go_sem,ST])); all_goals (and_intros <;> rfl)) (hnext (k+1) _ _ _ _ _ (by omega) (by omega) N (by rw [hD]; exact H) A hrb hmp)
   ·have g1:decide (S[k]<0)=false:=by simp; omega
    have g2:decide (S[k]≥(facts.length:Int))=true:=by simp; omega
    apply aj; simp only [go_sem,↓reduceIte,f1,getD_map,hlt,g1,g2,pJ,uI,uJ,wrapN (k:=k) (by omega)]
    repeat refine ⟨by omega,?_⟩
    refine R.to (ST tl facts S (k+1) hs) (by ((simp only [go_sem,ST])); all_goals (and_intros <;> rfl)) (hnext (k+1) _ _ _ _ _ (by omega) (by omega) N (by rw [hD]; exact H) A hrb hmp)
 ·have f1:decide ((k:Int)<(S.length:Int))=false:=by simp; omega
  have hke:k=S.length:=by omega
  subst hke
  clear hk
  refine jv 6 _ _ ?_
  simp only [go_sem,↓reduceIte,f1,pJ,uI,uJ]
  refine R.MX rfl fun a' w' E' g'=>Qo 0 _ rfl _ _ _ _ _ ?_ a' w' E' g'
  refine R.aj0 (i:=7) rfl rfl rfl N H A (Io rfl rfl rfl rfl) rfl rfl ?_
  rw [← adn]
  apply aj; simp only [go_sem,↓reduceIte,pJ,uI,uJ,Hy]
  refine R.fU (fun (k:Nat) s=>St.lp [6,7,60] [(61,.pd (I k))] [3] [] [] [(7,⟨47,1,(TS facts S tl.length k).map cO⟩)] s) (fun (k:Nat)=>k≤tl.length) (fun (k:Nat)=>tl.length - k) (0) (by omega) ?_
  rintro k hk
  by_cases hlt:k<tl.length
  ·have f1:decide ((k:Int)<(tl.length:Int))=true:=by simp; omega
   have hat:((TS facts S tl.length k).map cO).getD k (.ak [])=cO (pK facts S k):=by
    rw [getD_map _ _ _ (by rw [Hy]; exact hlt)]; congr 2; exact amZ hlt
   have hset:=aj2 (facts:=facts) (S:=S) hlt
   have J4:spl (cO (pK facts S k)) 0 (cO (wS facts S k))=cO (wS facts S k):=rfl
   have h76:aT aai 76 [.pd (cO (pK facts S k))] [cO (wS facts S k)]:=MC (pK facts S k) (by
    unfold pK
    have:=aqN (rowAt facts k) S
    omega) fun r hr'=>by
    obtain ⟨f,hf',rfl⟩:=Yf hr'
    have:=hr f hf'; omega
   apply aj; simp only [go_sem,↓reduceIte,f1,hat,Hy]
   repeat refine ⟨by omega,?_⟩
   refine R.kW (h76) rfl rfl (.cons (.pd _) (.nil)) ?_
   apply aj; simp only [go_sem,↓reduceIte,hat,Hy,wrapN (k:=k) (by omega)]
   repeat refine ⟨by omega,?_⟩
   rw [J4,hset]
   refine R.fE (k+1) (by omega)
  ·have f1:decide ((k:Int)<(tl.length:Int))=false:=by simp; omega
   have hke:k=tl.length:=by omega
   subst hke
   apply aj; simp only [go_sem,↓reduceIte,f1]
   refine R.bT 7 rfl rfl ?_
   simp only [go_sem]
   refine R.rW ?_
   rw [afH]; rfl
theorem am0:aH aai 64:=fun _ _=>by kernel_rfl
theorem aa0 (l:List Attr) (n:ByteArray):kX l n=match jC l n with | some k=>(k:Int) | none=>-1:=by
 unfold kX jJ jC
 congr 1
 have:(fun t:Attr=>eqS t.name n)=fun t=>decide (t.name=n):=by
  funext t
  rw [ap5,Ij,aqp]
 rw [this]
theorem aj6:aH aai 128:=fun _ _=>by kernel_rfl
theorem ET {s:St} {n0 r:Nat} {a:jW} (h1:s.vars=[]) (h2:s.maps=[(r,.map a)]) (h3:s.gs=[]) (h4:MJ s.slots=true) (hr:n0≤r):s.Bare n0 where
 vars:=h1
 maps:=fun q m h=>by
  rw [St.map,h2] at h
  simp only [lk] at h
  split at h
  ·rename_i e
   subst e
   exact ⟨hr,a,by simpa using h.symm⟩
  ·cases h
 gs:=h3
 box:=(Io (s:=⟨s.n,s.slots,[],[],[],[]⟩) (n0:=0) rfl rfl rfl h4).box
theorem Yg (la:List Attr) {lb:List Attr} {k:Nat} (h:k<lb.length):iw la (lb.zipIdx.take (k+1))=iw la (lb.zipIdx.take k)++(match jC la lb[k].name with | some j=>[(j:Int)] | none=>[]) ∧
  dW la (lb.zipIdx.take (k+1))=dW la (lb.zipIdx.take k)++(match jC la lb[k].name with | some _=>[(k:Int)] | none=>[]) ∧
  kG la (lb.zipIdx.take (k+1))=kG la (lb.zipIdx.take k)++(match jC la lb[k].name with | some _=>[] | none=>[(k:Int)]):=by
 have hz:k<lb.zipIdx.length:=by simpa using h
 have e:lb.zipIdx.take (k+1)=lb.zipIdx.take k++[(lb[k],k)]:=by
  rw [aaG hz]; simp
 rw [e]
 simp only [iw,dW,kG,aty]
 cases hf:jC la lb[k].name with
 | none=>simp [Aj,hf]
 | some j=>simp [Aj,hf]
theorem Um (la:List Attr) (l:List (Attr × Nat)):(iw la l).length≤l.length∧(dW la l).length≤l.length∧(kG la l).length≤l.length:=⟨aqN _ _,aqN _ _,aqN _ _⟩
theorem V5 {row:List V} {cols:List Int} (hv:dV row) (hr:row.length≤100000000) (hl:cols.length≤100000000) (hc:∀ c∈cols,0≤c∧c.toNat<row.length):aT aai 199 [.pd (vals row),.pd (ints cols)] (BJ (dG row cols)):=
 key_ok row cols (fun v hv'=>by
  have:=OI (hv v hv')
  have e:(bytes (bU v)).length=(bU v).size:=Array.length_toList
  omega) (by omega) (by omega) hc
def SJ (m1 m2:List (List V)) (L Rr Re:List Int) (r k:Nat) (hs:Nat→Value):St:=⟨134,[(2,.pd (jD [m1,m2])),(7,.pd (ints L)),(8,.pd (ints Rr)),(9,.pd (ints Re)),(13,.pd (F 199)),(14,.pd (mref r)),(65,.pd (cO m2)),(66,.pd (I m2.length)),(67,.pd (I k))],[],[],[(r,.map (iM (keysL (fun y=>dG y Rr) (m2.take k)) fun t=>.raw (hs t)))],[]⟩
def SK (m1 m2:List (List V)) (L:List Int) (r:Nat) (M:jW):St:=⟨134,[(2,.pd (jD [m1,m2])),(7,.pd (ints L)),(13,.pd (F 199)),(14,.pd (mref r))],[],[],[(r,.map M)],[]⟩
theorem aoZ {T G:Prop} (f:T→G) (x:T):G:=f x
theorem UY (x:PD) (p q0 q1:Plan) (hks:p.kids=[q0,q1]) (m1 m2:List (List V)) (h1:m1.length≤1000) (h2:m2.length≤1000) (hv1:∀ r∈m1,dV r∧r.length=q0.attrs.length) (hv2:∀ r∈m2,dV r∧r.length=q1.attrs.length)
  (hjl:(m1.flatMap fun x=>m2.filterMap fun y=>jk q0.attrs q1.attrs x y).length≤1000) (a0:q0.attrs.length≤100000000) (a1:q1.attrs.length≤100000000):
  aT aai 128 [.ref x 0,.pd (plan p),.pd (jD [m1,m2])] [cO (m1.flatMap fun x=>m2.filterMap fun y=>jk q0.attrs q1.attrs x y)]:=by
 have hjr:(m1.flatMap fun x=>m2.filterMap fun y=>jk q0.attrs q1.attrs x y)=m1.flatMap (N7 q0.attrs q1.attrs m2):=Uc hv1 hv2
 rw [hjr] at hjl ⊢
 clear hjr
 generalize hla:q0.attrs=la at *
 generalize hlb:q1.attrs=lb at *
 have hpl:plan p = .ak [I p.kind,I p.table,.list 8 [gu q0,gu q1],nD p.tests,ints p.cols,I p.col,I p.agg,attrs p.attrs]:=by
  rw [aJ p,hks]
  simp only [gu,plans,ads,adG,aJ q0,aJ q1]
 rw [hpl]
 simp only [gu,hla,hlb]
 clear hpl hks
 generalize hpq:(PD.ak [I q0.kind,I q0.table,plans q0.kids,nD q0.tests,ints q0.cols,I q0.col,I q0.agg,attrs la])=t0
 have ht0:t0 = .ak [I q0.kind,I q0.table,plans q0.kids,nD q0.tests,ints q0.cols,I q0.col,I q0.agg,attrs la]:=hpq.symm
 generalize hpr:(PD.ak [I q1.kind,I q1.table,plans q1.kids,nD q1.tests,ints q1.cols,I q1.col,I q1.agg,attrs lb])=t1
 have ht1:t1 = .ak [I q1.kind,I q1.table,plans q1.kids,nD q1.tests,ints q1.cols,I q1.col,I q1.agg,attrs lb]:=hpr.symm
 clear hpq hpr
 refine aT.mk Tryz.func128 rfl aj6 (by simp [Tryz.ntmps128]) fun w G=>?_
 apply ev8; simp only [go_sem,Int.toNat_one,ht1]
 repeat refine ⟨by omega,?_⟩
 refine R.ku 7 7 3 1 (by (simp only [go_sem])) rfl rfl ?_
 simp only [go_sem]
 refine R.ku 8 8 3 1 (by (simp only [go_sem])) rfl rfl ?_
 simp only [go_sem]
 refine R.ku 9 9 3 1 (by (simp only [go_sem])) rfl rfl ?_
 simp only [go_sem]
 have hz0:(iw la (lb.zipIdx.take 0)).map I=[]∧(dW la (lb.zipIdx.take 0)).map I=[]∧(kG la (lb.zipIdx.take 0)).map I=[]:=⟨rfl,rfl,rfl⟩
 refine R.fU (fun (k:Nat) s=>St.lp [2,4,6,32,33] [(34,.pd (I k)),(7,.own 7),(8,.own 8),(9,.own 9)] [4] [] [] [(7,⟨3,1,(iw la (lb.zipIdx.take k)).map I⟩),(8,⟨3,1,(dW la (lb.zipIdx.take k)).map I⟩),(9,⟨3,1,(kG la (lb.zipIdx.take k)).map I⟩)] s) (fun (k:Nat)=>k≤lb.length) (fun (k:Nat)=>lb.length - k) (0) (by omega) ?_
 rintro k hk
 by_cases hlt:k<lb.length
 ·have f1:decide ((k:Int)<(lb.length:Int))=true:=by simp; omega
  obtain ⟨n1,n2,n3⟩:=Yg la hlt
  obtain ⟨l1,l2,l3⟩:=Um la (lb.zipIdx.take k)
  rw [anc,avF] at l1 l2 l3
  have hcf:=aa0 la lb[k].name
  apply aj; simp only [go_sem,↓reduceIte,f1,getD_map,hlt]
  repeat refine ⟨by omega,?_⟩
  refine R.dA 7 80 mixed (by decide +kernel) ?_; simp only [go_sem,Int.toNat_zero,ht0]
  repeat refine ⟨by omega,?_⟩
  refine aQl ?_
  refine R.kC (Gn la lb[k].name) rfl rfl (.cons (.pd _) (.cons (.pd _) (.nil))) ?_
  refine aQl ?_
  cases hf:jC la lb[k].name with
  | some j=>
   rw [hf] at hcf n1 n2 n3
   simp only at hcf n1 n2 n3
   rw [ao3] at n3
   have f2:decide ((j:Int)≥0)=true:=by simp
   rw [hcf]
   apply aj; simp only [go_sem,↓reduceIte,f2]
   refine R.dF 1000000000 8 rfl rfl (by (simp only [go_sem])) rfl rfl rfl rfl sl27 rfl EW (by simp) (congrArg (aiA af0) EX) rfl FU (by simp; omega) (by decide) (by decide) ?_
   refine aQl ?_
   refine R.dF 1000000000 8 rfl rfl (by (simp only [go_sem])) rfl rfl rfl rfl sl27 rfl EW (by simp) (congrArg (aiA af0) EX) rfl FU (by simp; omega) (by decide) (by decide) ?_
   apply aj; simp only [go_sem,↓reduceIte,wrapN (k:=k) (by omega)]
   refine R.fE (k+1) (by omega) (l:=by (simp only [go_sem,n1,n2,n3,aei]); all_goals (and_intros <;> rfl))
  | none=>
   rw [hf] at hcf n1 n2 n3
   simp only at hcf n1 n2 n3
   rw [ao3] at n1 n2
   have f2:decide ((-1:Int)≥0)=false:=by decide
   rw [hcf]
   apply aj; simp only [go_sem,↓reduceIte,f2]
   refine R.dF 1000000000 8 rfl rfl (by (simp only [go_sem])) rfl rfl rfl rfl sl27 rfl EW (by simp) (congrArg (aiA af0) EX) rfl FU (by simp; omega) (by decide) (by decide) ?_
   apply aj; simp only [go_sem,↓reduceIte,wrapN (k:=k) (by omega)]
   refine R.fE (k+1) (by omega) (l:=by (simp only [go_sem,n1,n2,n3,aei]); all_goals (and_intros <;> rfl))
 ·have f1:decide ((k:Int)<(lb.length:Int))=false:=by simp; omega
  have hke:lb.zipIdx.take k=lb.zipIdx:=adw (by simp; omega)
  apply aj; simp only [go_sem,↓reduceIte,f1,hke]
  refine R.bT 7 rfl rfl ?_
  simp only [go_sem]
  refine R.bT 8 rfl rfl ?_
  simp only [go_sem]
  refine R.bT 9 rfl rfl ?_
  simp only [go_sem]
  obtain ⟨l1,l2,l3⟩:=Um la lb.zipIdx
  rw [avF] at l1 l2 l3
  have cl:=VW (la:=la) (l:=lb.zipIdx)
  have cr:=EN (la:=la) (lb:=lb)
  have ce:=afx (la:=la) (lb:=lb)
  have hout:∀ x,N7 la lb m2 x=match dG x (iw la lb.zipIdx) with | some k=>(moreL (fun y=>dG y (dW la lb.zipIdx)) (fun y=>aS y (kG la lb.zipIdx)) m2 k).map (x ++ ·) | none=>[]:=fun x=>rfl
  generalize iw la lb.zipIdx=L at *
  generalize dW la lb.zipIdx=Rr at *
  generalize kG la lb.zipIdx=Re at *
  generalize N7 la lb m2=out at *
  clear hz0 f1 hke
  refine aQl ?_
  refine R.makeMap rfl rfl rfl (by (simp only [go_sem])) fun r hr hr0=>?_
  clear hr0
  apply aj; simp only [go_sem,↓reduceIte,Int.toNat_one]
  repeat refine ⟨by omega,?_⟩
  refine R.to (SJ m1 m2 L Rr Re r 0 fun _=>.slice none 0 0) (by ((simp only [go_sem,SJ])); all_goals (and_intros <;> rfl)) ?_
  refine R.aeB m2.length 37 rfl (fun b h=>h) (ET rfl rfl rfl rfl hr) rfl ?_
  intro w1 G1 rb mp N H A hrb hmp
  have hkk:∀ k (h:k<m2.length),aT aai 199 [.pd (vals m2[k]),.pd (ints Rr)] (BJ (dG m2[k] Rr)):=fun k h=>by
   have hv:=hv2 _ (aaO h)
   exact V5 hv.1 (by omega) (by omega) fun c hc=>by rw [hv.2]; exact cr c hc
  have hpk:∀ k (h:k<m2.length),aT aai 198 [.pd (vals m2[k]),.pd (ints Re)] [vals (aS m2[k] Re),B true]:=fun k h=>by
   have hv:=hv2 _ (aaO h)
   have:=MB m2[k] Re (by omega) (by omega)
   rwa [CB fun c hc=>by rw [hv.2]; exact ce c hc] at this
  obtain ⟨i0,hi1,hz,hsz,hby⟩:=info_parts V4
  refine R.VZ (e:=37) (SJ m1 m2 L Rr Re r) (fun k=>headD (fun y=>dG y Rr) (fun y=>aS y Re) (m2.take k)) (fun k hs=>k≤m2.length∧∀ t,(keysL (fun y=>dG y Rr) (m2.take k)).length≤t→hs t = .slice none 0 0) (fun k=>m2.length - k) 0 ⟨by omega,fun _ _=>rfl⟩ N H A (fun i h=>hrb i (h 0 _)) (fun q h=>hmp q (h 0 _)) rfl rfl ?_
  clear H A N hrb hmp w1 G1 rb mp
  rintro k hs w1 G1 rb mp ⟨hk,hnil⟩ N H A hrb hmp Q hnext Qo
  have hmr:mp r:=hmp r fun x h=>by simp [lQ,SJ,St.map,lk]
  unfold SJ
  by_cases hlt:k<m2.length
  ·have f1:decide ((k:Int)<(m2.length:Int))=true:=by simp; omega
   have htk:m2.take (k+1)=m2.take k++[m2[k]]:=aaG hlt
   apply aj; simp only [go_sem,↓reduceIte,f1,getD_map,hlt,pJ,uI,uJ]
   repeat refine ⟨by omega,?_⟩
   refine R.y rfl (ah (by (simp only [go_sem,pJ]))) (.qx 72 199 _ _ _ _ _ rfl rfl rfl (.cons (.pd _) (.cons (.pd _) .nil)) (hkk k hlt) (by simp [plain,PD.plain])) ?_
   cases hkey:dG m2[k] Rr with
   | none=>
    have hD:=Yd (l:=m2.take k) (y:=m2[k]) (key:=fun y=>dG y Rr) (more:=fun y=>aS y Re) hkey
    have hK:=MH (l:=m2.take k) (y:=m2[k]) (key:=fun y=>dG y Rr) hkey
    apply aj; simp only [go_sem,↓reduceIte,BJ,pJ,uI,uJ,wrapN (k:=k) (by omega)]
    refine R.to (SJ m1 m2 L Rr Re r (k+1) hs) (by ((simp only [go_sem,SJ,htk,hK])); all_goals (and_intros <;> rfl)) (hnext (k+1) _ _ _ _ _ ⟨by omega,by rw [htk,hK]; exact hnil⟩ (by omega) N (by rw [htk,hD]; exact H) A hrb hmp)
   | some kk=>
    have hkl:=Pz (key:=fun y=>dG y Rr) (m2.take k)
    rw [anc] at hkl
    have hHl:∀ t,(headD (fun y=>dG y Rr) (fun y=>aS y Re) (m2.take k) t).length≤m2.length:=fun t=>by
     have:=aaT (key:=fun y=>dG y Rr) (more:=fun y=>aS y Re) (m2.take k) t
     rw [anc] at this; omega
    apply aj; simp only [go_sem,↓reduceIte,BJ,pJ,uI,uJ]
    refine R.kW (hpk k hlt) rfl rfl (.cons (.pd _) (.cons (.pd _) (.nil))) ?_
    apply aj; simp only [go_sem,↓reduceIte,pJ,uI,uJ]
    have hnd:=CG (key:=fun y=>dG y Rr) (m2.take k)
    by_cases hm:kk∈keysL (fun y=>dG y Rr) (m2.take k)
    ·obtain ⟨j,hj,hkj⟩:=af2 hm
     have hD:=aaV (l:=m2.take k) (y:=m2[k]) (key:=fun y=>dG y Rr) (more:=fun y=>aS y Re) hkey hj hkj
     have hK:=Px (l:=m2.take k) (y:=m2[k]) (key:=fun y=>dG y Rr) hkey hm
     have hlook:=Ui (d:=fun t=>PD.raw (hs t)) hnd hj
     rw [hkj] at hlook
     refine R.wX (m:=iM _ _) rfl rfl (ah (by (simp only [go_sem,pJ]))) rfl (by simp [St.map,lk]) rfl Em hlook ?_
     apply aj; simp only [go_sem,↓reduceIte,pJ,uI,uJ]
     refine R.Hw (j:=j) rfl N H A rfl (ET rfl rfl rfl rfl hr) rfl rfl rfl (by (simp only [go_sem])) (by omega) rfl rfl rfl (iE lY) hi1 hz hsz hby rfl (by have:=hHl j; unfold maxLen; omega) (by have:=hHl j; omega) ?_
     intro w2 G2 lS lT v' N2 H2 A2 Ak ES
     have ado:lT r:=ES r (by simp [lQ,St.map,lk])
     apply aj; simp only [go_sem,↓reduceIte,pJ,uI,uJ]
     refine R.Ky (i:=j) (m:=iM (keysL (fun y=>dG y Rr) (m2.take k)) fun t=>.raw (hs t)) (.inl rfl) rfl (ah (by (simp only [go_sem,pJ]))) rfl (by simp [St.map,lk]) rfl rfl Em rfl (VX _ _) (.inr (.inr ado)) (by rw [adg]; exact hj) (by rw [afC hj,hkj]) ?_
     have hset:=adi (d:=fun t=>PD.raw (hs t)) (x:=.raw v') hj
     rw [hkj] at hset
     rw [hset]
     apply aj; simp only [go_sem,↓reduceIte,pJ,uI,uJ,wrapN (k:=k) (by omega)]
     refine R.to (SJ m1 m2 L Rr Re r (k+1) (pz hs j v')) (by ((simp only [go_sem,SJ,htk,hK,VY])); all_goals (and_intros <;> rfl)) (hnext (k+1) _ _ _ _ _ ⟨by omega,fun t ht=>?_⟩ (by omega) N2 (by rw [htk,hD]; exact H2) A2 (fun i h=>Ak i ?_) (fun q h=>ES q ?_))
     ·rw [htk,hK] at ht
      rw [fG (by omega)]; exact hnil t ht
     ·exact h k hs
     ·exact h k hs
    ·have hD:=aaW (l:=m2.take k) (y:=m2[k]) (key:=fun y=>dG y Rr) (more:=fun y=>aS y Re) hkey hm
     have hK:=Py (l:=m2.take k) (y:=m2[k]) (key:=fun y=>dG y Rr) hkey hm
     have hlook:=PG (d:=fun t=>PD.raw (hs t)) hm
     refine R.wX (m:=iM _ _) rfl rfl (ah (by (simp only [go_sem,pJ]))) rfl (by simp [St.map,lk]) rfl Em hlook ?_
     apply aj; simp only [go_sem,↓reduceIte,pJ,uI,uJ]
     refine R.Hw (j:=(keysL (fun y=>dG y Rr) (m2.take k)).length) rfl N H A rfl (ET rfl rfl rfl rfl hr) rfl rfl rfl (by (simp only [go_sem])) (by omega) (by rw [hnil _ (aew _)]; rfl) rfl rfl (iE lY) hi1 hz hsz hby rfl (by have:=hHl (keysL (fun y=>dG y Rr) (m2.take k)).length; unfold maxLen; omega) (by have:=hHl (keysL (fun y=>dG y Rr) (m2.take k)).length; omega) ?_
     intro w2 G2 lS lT v' N2 H2 A2 Ak ES
     have ado:lT r:=ES r (by simp [lQ,St.map,lk])
     apply aj; simp only [go_sem,↓reduceIte,pJ,uI,uJ]
     refine R.jr (m:=iM (keysL (fun y=>dG y Rr) (m2.take k)) fun t=>.raw (hs t)) (.inl rfl) rfl (ah (by (simp only [go_sem,pJ]))) rfl (by simp [St.map,lk]) rfl rfl Em rfl (adh _ hm) (.inr (.inr ado)) ?_
     rw [adk]
     apply aj; simp only [go_sem,↓reduceIte,fK,dX.fK,pJ,uI,uJ,wrapN (k:=k) (by omega)]
     refine R.to (SJ m1 m2 L Rr Re r (k+1) (pz hs (keysL (fun y=>dG y Rr) (m2.take k)).length v')) (by ((simp only [go_sem,SJ,htk,hK,VY])); all_goals (and_intros <;> rfl)) (hnext (k+1) _ _ _ _ _ ⟨by omega,fun t ht=>?_⟩ (by omega) N2 (by rw [htk,hD]; exact H2) A2 (fun i h=>Ak i ?_) (fun q h=>ES q ?_))
     ·rw [htk,hK,aec] at ht
      simp only [afM,agq] at ht
      rw [fG (by omega)]; exact hnil t (by omega)
     ·exact h k hs
     ·exact h k hs
  ·have f1:decide ((k:Int)<(m2.length:Int))=false:=by simp; omega
   have hke:m2.take k=m2:=adw (by omega)
   rw [hke] at H ⊢
   refine jv 6 _ _ ?_
   simp only [go_sem,↓reduceIte,f1,pJ,uI,uJ]
   refine R.MX rfl fun a' w' E' g'=>Qo 2 _ rfl _ _ _ _ _ ?_ a' w' E' g'
   refine R.afD (r:=r) (u:=(keysL (fun y=>dG y Rr) m2).length) (key:=fun t=>.string (str ((keysL (fun y=>dG y Rr) m2).getD t []))) (Pz m2) rfl rfl rfl N H A (ET rfl rfl rfl rfl hr) rfl (by simp [St.map,lk,iM]) ?_
   clear H A N hrb hmp hnext Qo
   refine R.to (SK m1 m2 L r (iM (keysL (fun y=>dG y Rr) m2) fun t=>.list 1 (headD (fun y=>dG y Rr) (fun y=>aS y Re) m2 t))) (by ((simp only [go_sem,SK,iM])); all_goals (and_intros <;> rfl)) ?_
   have hlk:∀ kk,mJ aai 47 .string (.string (str kk)) ((iM (keysL (fun y=>dG y Rr) m2) fun t=>.list 1 (headD (fun y=>dG y Rr) (fun y=>aS y Re) m2 t)).map (·.1)) ((iM (keysL (fun y=>dG y Rr) m2) fun t=>.list 1 (headD (fun y=>dG y Rr) (fun y=>aS y Re) m2 t)).map (·.2)) true (cO (moreL (fun y=>dG y Rr) (fun y=>aS y Re) m2 kk)) ∨
     (moreL (fun y=>dG y Rr) (fun y=>aS y Re) m2 kk=[]∧mJ aai 47 .string (.string (str kk)) ((iM (keysL (fun y=>dG y Rr) m2) fun t=>.list 1 (headD (fun y=>dG y Rr) (fun y=>aS y Re) m2 t)).map (·.1)) ((iM (keysL (fun y=>dG y Rr) m2) fun t=>.list 1 (headD (fun y=>dG y Rr) (fun y=>aS y Re) m2 t)).map (·.2)) false (.raw (.slice none 0 0))):=fun kk=>by
    by_cases hm:kk∈keysL (fun y=>dG y Rr) m2
    ·obtain ⟨j,hj,hkj⟩:=af2 hm
     have:=Ui (d:=fun t=>.list 1 (headD (fun y=>dG y Rr) (fun y=>aS y Re) m2 t)) (CG m2) hj
     rw [hkj,qR hj,hkj] at this
     exact .inl this
    ·exact .inr ⟨MI hm,PG hm⟩
   have hml:∀ kk,∀ x∈moreL (fun y=>dG y Rr) (fun y=>aS y Re) m2 kk,x.length≤100000000:=fun kk x hx=>by
    obtain ⟨y,_,h⟩:=anp.1 hx
    split at h
    ·cases h; simp [aS]; omega
    ·cases h
   have hmn:∀ kk,(moreL (fun y=>dG y Rr) (fun y=>aS y Re) m2 kk).length≤1000:=fun kk=>ajk (PE m2 kk) h2
   generalize (iM (keysL (fun y=>dG y Rr) m2) fun t=>.list 1 (headD (fun y=>dG y Rr) (fun y=>aS y Re) m2 t))=M at *
   generalize moreL (fun y=>dG y Rr) (fun y=>aS y Re) m2=mo at *
   have hkx:∀ k (h:k<m1.length),aT aai 199 [.pd (vals m1[k]),.pd (ints L)] (BJ (dG m1[k] L)):=fun k h=>by
    have hv:=hv1 _ (aaO h)
    exact V5 hv.1 (by omega) (by omega) fun c hc=>by rw [hv.2]; exact cl c hc
   clear hkk hpk hi1 hz hsz hby hnil hke f1 hk
   unfold SK
   apply aj; simp only [go_sem,↓reduceIte,Int.toNat_zero]
   repeat refine ⟨by omega,?_⟩
   refine R.ku 21 21 37 1 (by (simp only [go_sem])) rfl rfl ?_
   simp only [go_sem]
   have hz1:((m1.take 0).flatMap out).map vals=[]:=rfl
   refine R.fU (fun (i:Nat) s=>St.lp [6,7,13,14,96,97] [(98,.pd (I i)),(21,.own 21)] [4,11] [] [] [(21,⟨37,1,((m1.take i).flatMap out).map vals⟩)] s) (fun (i:Nat)=>i≤m1.length) (fun (i:Nat)=>m1.length - i) (0) (by omega) ?_
   rintro i hi
   by_cases hlt:i<m1.length
   ·have f1:decide ((i:Int)<(m1.length:Int))=true:=by simp; omega
    have hsn:(m1.take (i+1)).flatMap out=(m1.take i).flatMap out++out m1[i]:=by rw [aaG hlt,aru]; simp
    have hpl:((m1.take (i+1)).flatMap out).length≤1000:=by
     have e:m1=m1.take (i+1)++m1.drop (i+1):=(aj8 ..).symm
     have e:=congrArg (fun l=>(l.flatMap out).length) e
     simp only [aru,aec] at e
     omega
    rw [hsn,aec] at hpl
    have ho:=hout m1[i]
    have hxl:=(hv1 _ (aaO hlt)).2
    apply aj; simp only [go_sem,↓reduceIte,f1,getD_map,hlt]
    repeat refine ⟨by omega,?_⟩
    refine R.y rfl (ah (by (simp only [go_sem]))) (.qx 103 199 _ _ _ _ _ rfl rfl rfl (.cons (.pd _) (.cons (.pd _) .nil)) (hkx i hlt) (by simp [plain,PD.plain])) ?_
    cases hkey:dG m1[i] L with
    | none=>
     rw [hkey] at ho; simp only at ho
     rw [ho,ao3] at hsn
     apply aj; simp only [go_sem,↓reduceIte,BJ,wrapN (k:=i) (by omega)]
     refine R.fE (i+1) (by omega) (l:=by (simp only [go_sem,hsn]); all_goals (and_intros <;> rfl))
    | some kk=>
     rw [hkey] at ho; simp only at ho
     apply aj; simp only [go_sem,↓reduceIte,BJ]
     have ao0:=hml kk
     have apV:=hmn kk
     apply aoZ
     ·intro rest
      rcases hlk kk with h | ⟨e,h⟩
      ·refine R.wX (m:=M) rfl rfl (ah (by (simp only [go_sem]))) rfl (by simp [St.map,lk]) rfl Em h ?_
       simp only [go_sem]
       exact rest
      ·refine R.wX (m:=M) rfl rfl (ah (by (simp only [go_sem]))) rfl (by simp [St.map,lk]) rfl Em h ?_
       simp only [go_sem]
       refine R.up 113 (by (simp only [go_sem])) rfl (.nil 1) ?_
       simp only [go_sem]
       rw [e] at rest
       exact rest
     rw [ho] at hsn hpl
     generalize mo kk=ml at *
     have hz2:((m1.take i).flatMap out++(ml.take 0).map (m1[i] ++ ·)).map vals=((m1.take i).flatMap out).map vals:=by simp
     rw [adu] at hpl
     refine aQl ?_
     refine R.fU (fun (j:Nat) s=>St.lp [6,7,13,14,23,96,97,98,113,114] [(115,.pd (I j)),(21,.own 21)] [4,11] [] [] [(21,⟨37,1,((m1.take i).flatMap out++(ml.take j).map (m1[i] ++ ·)).map vals⟩)] s) (fun (j:Nat)=>j≤ml.length) (fun (j:Nat)=>ml.length - j) (0) (by omega) ?_ (by (simp only [go_sem,hz2]); all_goals (and_intros <;> rfl))
     rintro j hj
     by_cases hlj:j<ml.length
     ·have f2:decide ((j:Int)<(ml.length:Int))=true:=by simp; omega
      have hcl:=ao0 _ (aaO hlj)
      have aj7:=Yb [m1[i],ml[j]] (by simp) (by simp; omega)
      have hfl:[m1[i],ml[j]].flatten=m1[i]++ml[j]:=by simp
      rw [hfl] at aj7
      have hsj:((m1.take i).flatMap out++(ml.take (j+1)).map (m1[i] ++ ·)).map vals=((m1.take i).flatMap out++(ml.take j).map (m1[i] ++ ·)).map vals++[vals (m1[i]++ml[j])]:=by
       rw [aaG hlj,aei,aei,aei,aei,ai2]; rfl
      have hjn:(ml.take j).length≤ml.length:=by rw [anc]; omega
      apply aj; simp only [go_sem,↓reduceIte,f2,getD_map,hlj]
      repeat refine ⟨by omega,?_⟩
      refine R.kW (aj7) rfl rfl (.cons (.pd _) (.nil)) ?_
      refine aQl ?_
      refine R.dF 1000000000000 24 rfl rfl (by (simp only [go_sem])) rfl rfl rfl rfl lY rfl rQ (by simp) (congrArg (aiA af0) Ej) rfl FW (by simp only [adu,aec]; omega) (by decide) (by decide) ?_
      apply aj; simp only [go_sem,↓reduceIte,wrapN (k:=j) (by omega)]
      refine R.fE (j+1) (by omega) (l:=by (simp only [go_sem,hsj]); all_goals (and_intros <;> rfl))
     ·have f2:decide ((j:Int)<(ml.length:Int))=false:=by simp; omega
      have hke:ml.take j=ml:=adw (by omega)
      have f3:decide ((((m1.take i).flatMap out++ml.map (m1[i] ++ ·)).length:Int) > 400000)=false:=by rw [aec,adu]; apply anb; omega
      apply aj; simp only [go_sem,↓reduceIte,f2,hke,f3,wrapN (k:=i) (by omega)]
      refine R.fE (i+1) (by omega) (l:=by (simp only [go_sem,hsn]); all_goals (and_intros <;> rfl))
   ·have f1:decide ((i:Int)<(m1.length:Int))=false:=by simp; omega
    have hke:m1.take i=m1:=adw (by omega)
    apply aj; simp only [go_sem,↓reduceIte,f1,hke]
    refine R.bT 21 rfl rfl ?_
    simp only [go_sem]
    refine R.rW ?_
    rfl
theorem am1:aH aai 74:=fun _ _=>by kernel_rfl
theorem UZ {tl:List bH} {facts:List bF} (hf:iT tl facts) (S:List Int) {n:Nat} {p:Plan} {m:AM} (hv:aV (n+1) tl p=true) (hg:grp p=false) (he:jI facts (n+1) p=some m) (ho:mZ p):
  ∃ kn fc fr ft,mJ aai 173 (.int .i64) (key p.kind) (jS.map (·.1)) (jS.map (·.2)) true (.ak [I kn,F fc,F fr,F ft])∧aT aai fr [.ref (evS (bI tl facts S)) 0,.pd (plan p),.pd (jD (p.kids.map (iZ (bI tl facts S) n)))] [cO (mg p (bI tl facts S) (p.kids.map (iZ (bI tl facts S) n)))]:=by
 obtain ⟨h8,hgk⟩:=o8 hg
 have hs:=kF hv h8
 obtain ⟨ms,L,h1,h2,h3,rfl⟩:=tH.1 he
 obtain ⟨hml,h4⟩:=nI h1
 obtain ⟨oa,oc,ot,ok,okl⟩:=(jG p).1 ho
 have kid:∀ i (hi:i<p.kids.length),(iZ (bI tl facts S) n p.kids[i]).length≤1000∧(iZ (bI tl facts S) n p.kids[i]).Pairwise (fun a b=>cZ a b<0)∧∀ r∈iZ (bI tl facts S) n p.kids[i],r.length=p.kids[i].attrs.length∧dV r:=fun i hi=>by
  have hv':=hs.kids _ (aaO hi)
  have hg':=hgk _ (aaO hi)
  have he':=h4 i hi (by omega)
  exact ⟨Dz hf S hv' hg' he',Md _ _ _,NY hf S hv' hg' he'⟩
 have hall:(iZ (bI tl facts S) (n+1) p).length≤1000:=Dz hf S hv hg he
 have kat:∀ q∈p.kids,q.attrs.length≤100000000:=fun q hq=>((jG q).1 (wI okl q hq)).1
 generalize hT:bI tl facts S=T at *
 have hTl:T.length=tl.length:=by rw [← hT]; simp [bI]
 unfold mg
 cases hs with
 | table hk hks h0 h1' hl=>
  refine ⟨_,_,_,_,by rw [hk]; exact jY 1 0 (by decide) rfl,?_⟩
  rw [adA hk]
  exact aaP T p _ h0 (by omega)
 | sel hk q hks hq hsv hl=>
  refine ⟨_,_,_,_,by rw [hk]; exact jY 2 1 (by decide) rfl,?_⟩
  have k0:=kid 0 (by rw [hks]; simp)
  simp only [hks,agV] at k0
  simp only [hk,hks,ads,adG,reduceIte,aga]
  refine P7 _ p _ (by omega) fun r hr t ht=>Tt hsv (k0.2.2 r hr).1 t ht
 | proj hk q hks hq hcc hl=>
  refine ⟨_,_,_,_,by rw [hk]; exact jY 3 2 (by decide) rfl,?_⟩
  have k0:=kid 0 (by rw [hks]; simp)
  simp only [hks,agV] at k0
  simp only [hk,hks,ads,adG,reduceIte,aga]
  exact N9 _ p _ (by omega) (by omega) (fun r hr c hc=>by rw [(k0.2.2 r hr).1]; exact hcc c hc) fun r hr=>by rw [(k0.2.2 r hr).1]; have:=kat q (by rw [hks]; simp); omega
 | ren hk q hks hq hl=>
  refine ⟨_,_,_,_,by rw [hk]; exact jY 7 6 (by decide) rfl,?_⟩
  simp only [hk,hks,ads,adG,reduceIte,aga]
  exact Ug _ p _
 | join hk q0 q1 hks hq hr hn hj=>
  refine ⟨_,_,_,_,by rw [hk]; exact jY 4 3 (by decide) rfl,?_⟩
  have k0:=kid 0 (by rw [hks]; simp)
  have k1:=kid 1 (by rw [hks]; simp)
  simp only [hks,agV,apb] at k0 k1
  simp only [hk,hks,ads,adG,reduceIte,aga]
  have hjl:(iZ T n q0).flatMap (fun x=>(iZ T n q1).filterMap fun y=>jk q0.attrs q1.attrs x y)=mg p T (p.kids.map (iZ T n)):=by
   unfold mg
   simp only [hk,hks,ads,adG,reduceIte,aga]
  have hjl:((iZ T n q0).flatMap fun x=>(iZ T n q1).filterMap fun y=>jk q0.attrs q1.attrs x y).length≤1000:=by
   have hnd:((iZ T n q0).flatMap fun x=>(iZ T n q1).filterMap fun y=>jk q0.attrs q1.attrs x y).Nodup:=NZ (fun r hr=>⟨(k0.2.2 r hr).2,(k0.2.2 r hr).1⟩) (fun r hr=>⟨(k1.2.2 r hr).2,(k1.2.2 r hr).1⟩) (vV k0.2.1) (vV k1.2.1)
   refine ajk (EM hnd fun x hx=>?_) hall
   rw [hjl] at hx
   exact (EL x _).2 hx
  exact UY _ p q0 q1 hks _ _ k0.1 k1.1 (fun r hr=>⟨(k0.2.2 r hr).2,(k0.2.2 r hr).1⟩) (fun r hr=>⟨(k1.2.2 r hr).2,(k1.2.2 r hr).1⟩) hjl (kat q0 (by rw [hks]; simp)) (kat q1 (by rw [hks]; simp))
 | union hk q0 q1 hks hq hr hl1 hl2=>
  refine ⟨_,_,_,_,by rw [hk]; exact jY 5 4 (by decide) rfl,?_⟩
  have k0:=kid 0 (by rw [hks]; simp)
  have k1:=kid 1 (by rw [hks]; simp)
  simp only [hks,agV,apb] at k0 k1
  simp only [hk,hks,ads,adG,reduceIte,aga]
  exact aaQ _ p _ _ (by omega) (by omega)
 | minus hk q0 q1 hks hq hr hl1 hl2=>
  refine ⟨_,_,_,_,by rw [hk]; exact jY 6 5 (by decide) rfl,?_⟩
  have k0:=kid 0 (by rw [hks]; simp)
  have k1:=kid 1 (by rw [hks]; simp)
  simp only [hks,agV,apb] at k0 k1
  simp only [hk,hks,ads,adG,reduceIte,aga]
  exact aaS _ p _ _ (by omega) k1.2.1 (by omega)
theorem U0 {tl:List bH} {facts:List bF} (hf:iT tl facts) (S:List Int) {n:Nat} {p:Plan} {m:AM} (hv:aV (n+1) tl p=true) (hg:grp p=false) (he:jI facts (n+1) p=some m):(mg p (bI tl facts S) (p.kids.map (iZ (bI tl facts S) n))).length≤1000000:=by
 obtain ⟨h8,hgk⟩:=o8 hg
 have hs:=kF hv h8
 obtain ⟨ms,L,h1,h2,h3,rfl⟩:=tH.1 he
 obtain ⟨hml,h4⟩:=nI h1
 have kid:∀ i (hi:i<p.kids.length),(iZ (bI tl facts S) n p.kids[i]).length≤1000:=fun i hi=>
  Dz hf S (hs.kids _ (aaO hi)) (hgk _ (aaO hi)) (h4 i hi (by omega))
 unfold mg
 cases hs with
 | table hk hks h0 h1' hl=>
  rw [adA hk]
  have e:(bI tl facts S).getD p.table.toNat []=wS facts S p.table.toNat:=by simp [bI,h1']
  rw [e]
  have:(wS facts S p.table.toNat).length≤(facts.map (·.row)).length:=EM (vV (Jd _)) fun r hr=>by
   obtain ⟨i,hi,_,_,rfl⟩:=(JW _ _ _ _).1 hr
   exact adE.2 ⟨_,aaO hi,rfl⟩
  have h2:=hf.1
  simp at this; omega
 | sel hk q hks hq hsv hl=>
  have k0:=kid 0 (by rw [hks]; simp)
  simp only [hks,agV] at k0
  simp only [hk,hks,ads,adG,reduceIte,aga]
  have:=asn (fun r=>!wP p r) (iZ (bI tl facts S) n q)
  omega
 | proj hk q hks hq hcc hl=>
  have k0:=kid 0 (by rw [hks]; simp)
  simp only [hks,agV] at k0
  simp only [hk,hks,ads,adG,reduceIte,aga,adu]
  omega
 | ren hk q hks hq hl=>
  have k0:=kid 0 (by rw [hks]; simp)
  simp only [hks,agV] at k0
  simp only [hk,hks,ads,adG,reduceIte,aga]
  omega
 | join hk q0 q1 hks hq hr hn hj=>
  have k0:=kid 0 (by rw [hks]; simp)
  have k1:=kid 1 (by rw [hks]; simp)
  simp only [hks,agV,apb] at k0 k1
  simp only [hk,hks,ads,adG,reduceIte,aga]
  generalize iZ (bI tl facts S) n q0=a at *
  generalize iZ (bI tl facts S) n q1=b at *
  have:(a.flatMap fun x=>b.filterMap fun y=>jk q0.attrs q1.attrs x y).length≤a.length * b.length:=by
   clear k0
   induction a with
   | nil=>simp
   | cons x a ih=>
    have:=aqN (fun y=>jk q0.attrs q1.attrs x y) b
    rw [aqo,aec,afM,aqd,Nat.one_mul]
    omega
  have h5:a.length * b.length≤1000 * 1000:=auz k0 k1
  omega
 | union hk q0 q1 hks hq hr hl1 hl2=>
  have k0:=kid 0 (by rw [hks]; simp)
  have k1:=kid 1 (by rw [hks]; simp)
  simp only [hks,agV,apb] at k0 k1
  simp only [hk,hks,ads,adG,reduceIte,aga,aec]
  omega
 | minus hk q0 q1 hks hq hr hl1 hl2=>
  have k0:=kid 0 (by rw [hks]; simp)
  have k1:=kid 1 (by rw [hks]; simp)
  simp only [hks,agV,apb] at k0 k1
  simp only [hk,hks,ads,adG,reduceIte,aga]
  have:=asn (fun r=>!tK (iZ (bI tl facts S) n q1) r) (iZ (bI tl facts S) n q0)
  omega
theorem V6 {tl:List bH} {facts:List bF} (hf:iT tl facts) (S:List Int):∀ (n:Nat) (p:Plan) (m:AM),aV n tl p=true→grp p=false→jI facts n p=some m→mZ p→aT aai 74 [.ref (evS (bI tl facts S)) 0,.pd (plan p)] [cO (iZ (bI tl facts S) n p)]
 | 0,p,m,hv,_,_,_=>by simp [aV] at hv
 | n+1,p,m,hv,hg,he,ho=>by
  obtain ⟨kn,fc,fr,ft,hlook,hrows⟩:=UZ hf S hv hg he ho
  have hlen:=U0 hf S hv hg he
  have hrow:=NY hf S hv hg he
  have hev:=Dz hf S hv hg he
  obtain ⟨oa,oc,ot,ok,okl⟩:=(jG p).1 ho
  have hset:∀ l:List (List V),iZ (bI tl facts S) (n+1) p=yx l→aT aai 76 [.pd (cO l)] [cO (yx l)]→aT aai 76 [.pd (cO l)] [cO (iZ (bI tl facts S) (n+1) p)]:=fun l e h=>by rw [e]; exact h
  have h76:aT aai 76 [.pd (cO (mg p (bI tl facts S) (p.kids.map (iZ (bI tl facts S) n))))] [cO (iZ (bI tl facts S) (n+1) p)]:=by
   refine hset _ rfl (MC _ (by omega) fun r hr=>?_)
   have hr:r∈iZ (bI tl facts S) (n+1) p:=(EL r _).2 hr
   rw [(hrow r hr).1]; omega
  have hkids:∀ q∈p.kids,aT aai 74 [.ref (evS (bI tl facts S)) 0,.pd (plan q)] [cO (iZ (bI tl facts S) n q)]:=fun q hq=>by
   obtain ⟨h8,hgk⟩:=o8 hg
   have hs:=kF hv h8
   obtain ⟨ms,L,h1,h2,h3,rfl⟩:=tH.1 he
   obtain ⟨hml,h4⟩:=nI h1
   obtain ⟨i,hi,rfl⟩:=af2 hq
   exact V6 hf S n _ _ (hs.kids _ hq) (hgk _ hq) (h4 i hi (by omega)) (wI okl _ hq)
  generalize iZ (bI tl facts S) (n+1) p=out at *
  generalize iZ (bI tl facts S) n=kr at *
  generalize mg p (bI tl facts S) (p.kids.map kr)=pre at *
  clear hlen hrow hv hg he hset
  generalize bI tl facts S=T at *
  rw [aJ p] at hrows ⊢
  refine aT.mk Tryz.func74 rfl am1 (by simp [Tryz.ntmps74]) fun w G=>?_
  refine aQk ?_
  refine R.ku 5 5 47 1 (by (simp only [go_sem])) rfl rfl ?_
  simp only [go_sem]
  refine aQl ?_
  refine R.fU (fun (k:Nat) s=>St.lp [0,3,4,10,11] [(12,.pd (I k)),(5,.own 5)] [3] [] [] [(5,⟨47,1,((p.kids.take k).map kr).map cO⟩)] s) (fun (k:Nat)=>k≤p.kids.length) (fun (k:Nat)=>p.kids.length - k) (0) (by omega) ?_
  rintro k hk
  by_cases hlt:k<p.kids.length
  ·have f1:decide ((k:Int)<(p.kids.length:Int))=true:=by simp; omega
   have ih:=hkids p.kids[k] (aaO hlt)
   rw [aJ p.kids[k]] at ih
   have hsn:((p.kids.take (k+1)).map kr).map cO=((p.kids.take k).map kr).map cO++[cO (kr p.kids[k])]:=by rw [aaG hlt,aei,aei]; rfl
   apply aj; simp only [go_sem,↓reduceIte,f1,getD_map,hlt,aJ p.kids[k]]
   repeat refine ⟨by omega,?_⟩
   refine R.kW (ih) rfl rfl (.cons (.ref _ _) (.cons (.pd _) (.nil))) ?_
   refine aQl ?_
   refine R.dF 1000000000000 24 rfl rfl (by (simp only [go_sem])) rfl rfl rfl rfl abA rfl WI (by simp) (congrArg (aiA af0) abw) rfl abv (by simp; omega) (by decide) (by decide) ?_
   apply aj; simp only [go_sem,↓reduceIte,wrapN (k:=k) (by omega)]
   refine R.fE (k+1) (by omega) (l:=by (simp only [go_sem,hsn]); all_goals (and_intros <;> rfl))
  ·have f1:decide ((k:Int)<(p.kids.length:Int))=false:=by simp; omega
   have hke:p.kids.take k=p.kids:=adw (by omega)
   have f2:decide ((out.length:Int) > 4000)=false:=by simp; omega
   apply aj; simp only [go_sem,↓reduceIte,f1,hke]
   refine R.bT 5 rfl rfl ?_
   simp only [go_sem]
   refine R.dA 11 80 mixed (by decide +kernel) ?_; simp only [go_sem]
   refine ⟨_,.inl ⟨rfl,.look 119 _ _ false _ _ _ _ _ _ _ rfl rfl rfl sQ true hlook⟩,ah (by (simp only [go_sem])),?_⟩
   (refine aZ 80 _ _ ?_; simp only [go_sem])
   refine aQl ?_
   refine R.y rfl (ah (by (simp only [go_sem]))) (.qx 30 fr _ _ _ _ _ rfl rfl rfl (.cons (.ref _ _) (.cons (.pd _) (.cons (.pd _) .nil))) hrows (by simp [plain,PD.plain])) ?_
   refine aQl ?_
   refine R.kW (h76) rfl rfl (.cons (.pd _) (.nil)) ?_
   apply aj; simp only [go_sem,↓reduceIte,f2]
   refine R.rW ?_
   rfl
end Go.Proofs.Z
end
