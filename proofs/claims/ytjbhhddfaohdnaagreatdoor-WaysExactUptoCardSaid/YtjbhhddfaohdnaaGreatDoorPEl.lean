/- A part of the proof. -/
import Derived.Test.YtjbhhddfaohdnaaGreatDoorPEc
set_option linter.all false
set_option linter.deprecated false
open Array renaming replicate→aew
open Go.Proofs.Tryz renaming prog→abZ
open Go.Region renaming ready→anX,noSelect→awJ,wanted→anU
open List renaming length_cons→aey,length_nil→akO,nodup_nil→asV,filterMap_append→aqR,range→aeI,getElem_range→arK,length→aeK
open Option renaming getD_some→aeN,map_some→aiq,bind_some→anK,map→aii
section
namespace Go.au
structure Head (e:TypeId) (n:Nat) (w:World) (G:Pub) (v:Value) (ds:List PD):Prop where
 xs:∃ xs,w.ownsRow 0 e 1 v ds.length xs∧∀ j,j<ds.length→(xs.getD j undef).oneCell'=true∧Rd w G (xs.getD j undef) ((ds.getD j (.aj [])).cell 0)
 wid:∀ j,j<ds.length→(ds.getD j (.aj [])).width=1
 low:∀ b,v.ownBlock=some b→n≤b∧∀ o,¬ G b o
section
variable {e:TypeId} {n:Nat} {w w':World} {G G':Pub} {v v':Value} {ds:List PD}
theorem Head.nil:Head e n w G (.slice none 0 0) []:=⟨⟨[],⟨rfl,.inl ⟨rfl,rfl⟩⟩,fun j hj=>by simp at hj⟩,fun j hj=>by simp at hj,fun b h=>by cases h⟩
theorem uS {xs:List Value} {k:Nat} (h:w.ownsRow 0 e 1 v k xs) {b:Nat} (hb:v.ownBlock=some b):∃ cap cur,v = .slice (some ⟨b,0,none⟩) k cap∧w.heap[b]? = some (.cells cur e (0,0))∧k≤cap∧cap≤maxLen∧cur.size=cap∧cur.toList.take k=xs:=by
 rcases h.2 with ⟨rfl,_⟩ | ⟨g,cap,cur,rfl,_,hg,h1,h2,h3,h4⟩
 ·cases hb
 ·simp only [Value.ownBlock,acX] at hb
  subst hb
  exact ⟨cap,cur,rfl,hg,h1,h2,by simpa using h3,by simpa using h4⟩
theorem Head.lt (h:Head e n w G v ds) {b:Nat} (hb:v.ownBlock=some b):b<w.heap.size:=by
 obtain ⟨xs,ho,_⟩:=h.xs
 obtain ⟨_,_,_,hg,_⟩:=uS ho hb
 exact (acR.1 hg).1
theorem RF {xs:List Value} {k:Nat} (h:w.ownsRow 0 e 1 v k xs) (hb:∀ b,v.ownBlock=some b→w'.heap[b]? = w.heap[b]?):w'.ownsRow 0 e 1 v k xs:=by
 refine ⟨h.1,?_⟩
 rcases h.2 with h1 | ⟨g,cap,cur,rfl,h0,hg,h2⟩
 ·exact .inl h1
 ·exact .inr ⟨g,cap,cur,rfl,h0,(hb g rfl).trans hg,h2⟩
theorem Head.keep (h:Head e n w G v ds) (hb:∀ b,v.ownBlock=some b→w'.heap[b]? = w.heap[b]?) (hG:∀ b o,G' b o→G b o∨w.heap.size≤b) (hk:Keeps w G w' G'):Head e n w' G' v ds:=by
 obtain ⟨xs,ho,hr⟩:=h.xs
 refine ⟨⟨xs,RF ho hb,fun j hj=>⟨(hr j hj).1,(hr j hj).2.keep hk⟩⟩,h.wid,fun b hb'=>⟨(h.low b hb').1,fun o ho'=>?_⟩⟩
 rcases hG b o ho' with h1 | h1
 ·exact (h.low b hb').2 o h1
 ·have:=h.lt hb'; omega
theorem Head.read (h:Head e n w G v ds) (hG:∀ b o,G b o→G' b o) (hp:∀ b o,v.ownBlock=some b→G' b o):aK w G' v (.list 1 ds):=by
 obtain ⟨xs,ho,hr⟩:=h.xs
 have hk:Keeps w G w G':=⟨hG,fun _ _ _=>rfl,fun _ _ _=>rfl⟩
 rcases ho.2 with ⟨rfl,h0⟩ | ⟨g,cap,cur,rfl,_,hg,h1,h2,h3,h4⟩
 ·have:ds=[]:=aip.1 h0
  rw [this]
  exact (Rd.emp (sz:=1) (p:=none)).Bl
 ·refine (Rd.oK h1 h2 h.wid fun i hi j hj=>?_).Bl
  rw [h.wid i hi] at hj
  obtain rfl:j=0:=by omega
  have hc:i<cur.size:=by rw [h3]; omega
  have hx:xs.getD i undef=cur[i]:=by
   rw [← h4,ab2,apk (by omega)]
   simp [hc]
  refine ⟨hp g _ rfl,cur[i],by simp [World.cell?,hg,hc],?_⟩
  rw [← hx]
  exact (hr i hi).2.keep hk
theorem Head.more {x:Value} {d:PD} {xs:List Value} (h:Head e n w G v ds) (hx:∀ Ia,w.ownsRow 0 e 1 v ds.length Ia→(∀ j,j<ds.length→(Ia.getD j undef).oneCell'=true∧Rd w G (Ia.getD j undef) ((ds.getD j (.aj [])).cell 0))→xs=Ia++[x])
  (ho:w'.ownsRow 0 e 1 v' (ds.length+1) xs) (hk:Keeps w G w' G) (h1:x.oneCell'=true) (hr:Rd w G x (d.cell 0)) (hw:d.width=1) (hs:w.heap.size≤w'.heap.size)
  (hb:v'.ownBlock=v.ownBlock∨v'.ownBlock=some w.heap.size) (hn:n≤w.heap.size) (hG:∀ b o,G b o→b<w.heap.size):Head e n w' G v' (ds++[d]):=by
 obtain ⟨Ia,ho0,hr0⟩:=h.xs
 have e1:=hx Ia ho0 hr0
 subst e1
 have hl:Ia.length=ds.length:=by simpa using ho0.1
 refine ⟨⟨Ia++[x],by simpa using ho,fun j hj=>?_⟩,fun j hj=>?_,fun b hb'=>?_⟩
 ·simp only [adb,aey,akO] at hj
  simp only [ab2]
  by_cases c:j<ds.length
  ·rw [aeD (by omega),aeD c]
   have:=hr0 j c
   simp only [ab2] at this
   exact ⟨this.1,this.2.keep hk⟩
  ·obtain rfl:j=ds.length:=by omega
   rw [aeS (by omega),aeS (by omega),hl]
   simp only [arJ,List.getElem?_cons_zero,aeN]
   exact ⟨h1,hr.keep hk⟩
 ·simp only [adb,aey,akO] at hj
  simp only [ab2]
  by_cases c:j<ds.length
  ·rw [aeD c]
   have:=h.wid j c
   simpa only [ab2] using this
  ·obtain rfl:j=ds.length:=by omega
   rw [aeS (by omega)]
   simpa using hw
 ·rcases hb with hb | hb
  ·rw [hb] at hb'; exact h.low b hb'
  ·rw [hb] at hb'; cases hb'
   exact ⟨hn,fun o ho=>by have:=hG _ _ ho; omega⟩
structure fK (e:TypeId) (n:Nat) (w:World) (G:Pub) (m:Nat) (hs:Nat→Value) (D:Nat→List PD):Prop where
 own:∀ t,t<m→Head e n w G (hs t) (D t)
 apart:∀ t t' b,t<m→t' < m→t≠t'→(hs t).ownBlock=some b→(hs t').ownBlock≠some b
theorem fK.keep {m:Nat} {hs:Nat→Value} {D:Nat→List PD} (h:fK e n w G m hs D) (hb:∀ b,b<w.heap.size→(∃ t,t<m∧(hs t).ownBlock=some b)→w'.heap[b]? = w.heap[b]?) (hG:∀ b o,G' b o→G b o∨w.heap.size≤b) (hk:Keeps w G w' G'):fK e n w' G' m hs D:=
 ⟨fun t ht=>(h.own t ht).keep (fun b hb'=>hb b ((h.own t ht).lt hb') ⟨t,ht,hb'⟩) hG hk,h.apart⟩
def oh {α:Type} (f:Nat→α) (t:Nat) (x:α):Nat→α:=fun j=>if j=t then x else f j
theorem iV {α:Type} (f:Nat→α) (t:Nat) (x:α):oh f t x t=x:=acA rfl
theorem eX {α:Type} {f:Nat→α} {t j:Nat} {x:α} (h:j≠t):oh f t x j=f j:=acg h
theorem fK.step {m t:Nat} {hs:Nat→Value} {D:Nat→List PD} {ds':List PD} (h:fK e n w G m hs D) (ht:t<m) (hg:w.grownBy w' (hs t).ownBlock) (hv:Head e n w' G v' ds') (hb:v'.ownBlock=(hs t).ownBlock∨v'.ownBlock=some w.heap.size) (hk:Keeps w G w' G):
  fK e n w' G m (oh hs t v') (oh D t ds'):=by
 refine ⟨fun j hj=>?_,fun j j' b hj hj' hne hjb=>?_⟩
 ·by_cases c:j=t
  ·subst c; rw [iV,iV]; exact hv
  ·rw [eX c,eX c]
   refine (h.own j hj).keep (fun b hb'=>hg.block b ((h.own j hj).lt hb') fun e=>?_) (fun b o h=>.inl h) hk
   exact h.apart t j b ht hj (an2 c) e.symm hb'
 ·by_cases c:j=t
  ·subst c
   rw [iV] at hjb
   rw [eX (an2 hne)]
   rcases hb with hb | hb
   ·rw [hb] at hjb; exact h.apart j j' b hj hj' hne hjb
   ·rw [hb] at hjb; cases hjb
    intro e2
    have:=(h.own j' hj').lt e2
    omega
  ·rw [eX c] at hjb
   by_cases c':j'=t
   ·subst c'
    rw [iV]
    rcases hb with hb | hb
    ·rw [hb]; exact h.apart j j' b hj hj' hne hjb
    ·rw [hb]
     intro e2; cases e2
     have:=(h.own j hj).lt hjb
     omega
   ·rw [eX c']; exact h.apart j j' b hj hj' hne hjb
def fK.pub (G:Pub) (m:Nat) (hs:Nat→Value):Pub:=fun b o=>G b o∨∃ t,t<m∧(hs t).ownBlock=some b
theorem fK.reads {m:Nat} {hs:Nat→Value} {D:Nat→List PD} (h:fK e n w G m hs D) (t:Nat) (ht:t<m):aK w (fK.pub G m hs) (hs t) (.list 1 (D t)):=
 (h.own t ht).read (fun _ _ h=>.inl h) (fun b o hb=>.inr ⟨t,ht,hb⟩)
end
end Go.au
end
section
namespace Go.Proofs.Z
open Go Go.au Go.Proofs
section
variable (key:List V→Option (List UInt8)) (more:List V→List V)
def uT (ks:List (List UInt8)) (y:List V):List (List UInt8):=match key y with
 | some k=>if k∈ks then ks else ks++[k]
 | none=>ks
def keysL (l:List (List V)):List (List UInt8):=l.foldl (uT key) []
def moreL (l:List (List V)) (k:List UInt8):List (List V):=l.filterMap fun y=>if key y=some k then some (more y) else none
def headD (l:List (List V)) (t:Nat):List PD:=match (keysL key l)[t]? with
 | some k=>(moreL key more l k).map vals
 | none=>[]
end
section
variable {key:List V→Option (List UInt8)} {more:List V→List V} {l:List (List V)} {y:List V} {k:List UInt8}
theorem D7:keysL key (l++[y])=uT key (keysL key l) y:=by simp [keysL,ap3]
theorem KG (h:key y=none):keysL key (l++[y])=keysL key l:=by rw [D7,uT,h]
theorem N7 (h:key y=some k) (hm:k∈keysL key l):keysL key (l++[y])=keysL key l:=by rw [D7,uT,h]; exact acA hm
theorem N8 (h:key y=some k) (hm:k∉keysL key l):keysL key (l++[y])=keysL key l++[k]:=by rw [D7,uT,h]; exact acg hm
theorem abM {ks:List (List UInt8)} (hn:ks.Nodup):(uT key ks y).Nodup∧(∀ x∈ks,x∈uT key ks y)∧(∀ k,key y=some k→k∈uT key ks y)∧(uT key ks y).length≤ks.length+1:=by
 unfold uT
 cases h:key y with
 | none=>exact ⟨hn,fun _ h=>h,(by intro k h; cases h),by show ks.length≤_; omega⟩
 | some k=>
  by_cases hm:k∈ks
  ·simp only [acA hm]
   exact ⟨hn,fun _ h=>h,(fun k' h=>by cases h; exact hm),by omega⟩
  ·simp only [acg hm]
   refine ⟨?_,fun x hx=>aph _ hx,(fun k' h=>by cases h; simp),by simp⟩
   rw [anM]
   refine ⟨hn,am2.2 ⟨by simp,asV⟩,?_⟩
   intro a ha b hb e
   rw [adh] at hb
   subst hb e
   exact hm ha
theorem D8:∀ (l:List (List V)) (ks:List (List UInt8)),ks.Nodup→(l.foldl (uT key) ks).Nodup∧(∀ x∈ks,x∈l.foldl (uT key) ks)∧(∀ y∈l,∀ k,key y=some k→k∈l.foldl (uT key) ks)∧(l.foldl (uT key) ks).length≤ks.length+l.length
 | [],ks,hn=>⟨hn,fun _ h=>h,fun y h=>by simp at h,by simp⟩
 | y::l,ks,hn=>by
  obtain ⟨h1,h2,h3,h4⟩:=abM (key:=key) (y:=y) hn
  obtain ⟨i1,i2,i3,i4⟩:=D8 l _ h1
  refine ⟨i1,fun x hx=>i2 x (h2 x hx),fun z hz k hk=>?_,by simp only [List.foldl_cons,aey]; omega⟩
  rcases ae1.1 hz with rfl | hz
  ·exact i2 k (h3 k hk)
  ·exact i3 z hz k hk
theorem Bj (l:List (List V)):(keysL key l).Nodup:=(D8 l [] asV).1
theorem N9 (l:List (List V)):(keysL key l).length≤l.length:=by
 have:=(D8 (key:=key) l [] asV).2.2.2
 rw [akO,amI] at this
 exact this
theorem abN {l:List (List V)} (hy:y∈l) (h:key y=some k):k∈keysL key l:=(D8 l [] asV).2.2.1 y hy k h
theorem KH (h:k∉keysL key l):moreL key more l k=[]:=by
 unfold moreL
 rw [List.filterMap_eq_nil_iff]
 intro y hy
 rw [acg]
 exact fun e=>h (abN hy e)
theorem x9:moreL key more (l++[y]) k=moreL key more l k++(if key y=some k then [more y] else []):=by
 unfold moreL
 rw [aqR]
 congr 1
 by_cases h:key y=some k
 ·simp [h]
 ·simp [h]
theorem Oa (l:List (List V)) (k:List UInt8):(moreL key more l k).length≤l.length:=aor _ _
theorem qx {t:Nat} (h:t<(keysL key l).length):headD key more l t=(moreL key more l (keysL key l)[t]).map vals:=by
 unfold headD; rw [aeE h]
theorem tu {t:Nat} (h:(keysL key l).length≤t):headD key more l t=[]:=by
 unfold headD; rw [ak3 h]
theorem Zt (l:List (List V)) (t:Nat):(headD key more l t).length≤l.length:=by
 by_cases h:t<(keysL key l).length
 ·rw [qx h,aci]; exact Oa _ _
 ·rw [tu (by omega)]; simp
theorem WL (h:key y=none):headD key more (l++[y])=headD key more l:=by
 funext t
 unfold headD
 rw [KG h]
 cases (keysL key l)[t]? with
 | none=>rfl
 | some k=>simp only [x9,h]; simp
theorem Zu {α:Type} {l:List α} (hn:l.Nodup) {i j:Nat} (hi:i<l.length) (hj:j<l.length) (h:l[i]=l[j]):i=j:=by
 rcases apV i j with c | c | c
 ·exact ((aeJ.1 hn) i j hi hj c h).elim
 ·exact c
 ·exact ((aeJ.1 hn) j i hj hi c h.symm).elim
theorem Zv {j:Nat} (h:key y=some k) (hj:j<(keysL key l).length) (hk:(keysL key l)[j]=k):headD key more (l++[y])=oh (headD key more l) j (headD key more l j++[vals (more y)]):=by
 have hm:k∈keysL key l:=hk ▸ acn hj
 funext t
 have e:=N7 (key:=key) h hm
 by_cases ht:t<(keysL key l).length
 ·have ht':t<(keysL key (l++[y])).length:=by rw [e]; exact ht
  have e2:(keysL key (l++[y]))[t]=(keysL key l)[t]:=by simp only [e]
  rw [qx ht',e2,x9]
  by_cases c:t=j
  ·subst c
   rw [iV,qx ht,hk,acA h,aeh]; rfl
  ·rw [eX c,qx ht,acg,amG]
   intro e3
   rw [h] at e3
   have e3:k=(keysL key l)[t]:=Option.some.inj e3
   rw [← hk] at e3
   exact c (Zu (Bj l) ht hj e3.symm)
 ·have ht':(keysL key (l++[y])).length≤t:=by rw [e]; omega
  rw [tu ht',eX (by omega),tu (by omega)]
theorem Zw (h:key y=some k) (hm:k∉keysL key l):headD key more (l++[y])=oh (headD key more l) (keysL key l).length (headD key more l (keysL key l).length++[vals (more y)]):=by
 funext t
 have e:=N8 (key:=key) h hm
 have el:(keysL key (l++[y])).length=(keysL key l).length+1:=by rw [e]; simp
 by_cases c:t=(keysL key l).length
 ·subst c
  have e2:(keysL key (l++[y]))[(keysL key l).length]'(by omega)=k:=by simp [e]
  rw [iV,qx (by omega),e2,tu (ael _),x9,acA h,KH hm]; rfl
 ·rw [eX c]
  by_cases ht:t<(keysL key l).length
  ·have e2:(keysL key (l++[y]))[t]'(by omega)=(keysL key l)[t]:=by simp [e,ht]
   rw [qx (by omega),e2,x9,qx ht,acg,amG]
   intro e3
   rw [h] at e3
   have e3:k=(keysL key l)[t]:=Option.some.inj e3
   exact hm (e3 ▸ acn ht)
  ·rw [tu (by omega),tu (by omega)]
end
def iD (ks:List (List UInt8)) (d:Nat→PD):jI:=(aeI ks.length).map fun t=>(.string (str (ks.getD t [])),d t)
theorem abO (ks:List (List UInt8)) (d:Nat→PD):(iD ks d).length=ks.length:=by simp [iD]
theorem wO (ks:List (List UInt8)) (d:Nat→PD):(iD ks d).map (·.1)=ks.map fun k=>Value.string (str k):=by
 unfold iD
 apply akV
 ·simp
 ·intro i h1 h2
  simp only [aci,apr] at h1
  simp [h1]
theorem ad8 {ks:List (List UInt8)} {d:Nat→PD} {t:Nat} (h:t<ks.length):(iD ks d).getD t (undef,.aj [])=(.string (str ks[t]),d t):=by
 simp [iD,h,ab2]
theorem UA (ks:List (List UInt8)) (d:Nat→PD):∀ p∈iD ks d,bH .string p.1=true:=by
 intro p hp
 obtain ⟨t,_,rfl⟩:=acL.1 hp
 rfl
theorem str_inj {a b:List UInt8} (h:str a=str b):a=b:=by
 have:=congrArg bytes h
 simpa [str,bytes] using this
theorem abP {ks:List (List UInt8)} {k:List UInt8} (d:Nat→PD) (h:k∉ks):∀ p∈iD ks d,bH .string p.1=true∧p.1≠.string (str k):=by
 intro p hp
 have h1:p.1∈(iD ks d).map (·.1):=acL.2 ⟨p,hp,rfl⟩
 refine ⟨UA ks d p hp,fun e=>?_⟩
 rw [wO,e] at h1
 obtain ⟨x,hx,e2⟩:=acL.1 h1
 exact h (str_inj (Value.string.inj e2) ▸ hx)
theorem abQ {ks:List (List UInt8)} {d:Nat→PD} {j:Nat} {x:PD} (hj:j<ks.length):(iD ks d).set j (.string (str ks[j]),x)=iD ks (oh d j x):=by
 unfold iD
 apply akV
 ·simp
 ·intro i h1 h2
  simp only [anC,aqV,arK]
  by_cases c:j=i
  ·subst c; rw [acA rfl,iV]; simp [hj]
  ·rw [acg c,eX (fun e=>c e.symm)]
theorem abR {ks:List (List UInt8)} {d:Nat→PD} {k:List UInt8} {x:PD}:iD ks d++[(.string (str k),x)]=iD (ks++[k]) (oh d ks.length x):=by
 unfold iD
 apply akV
 ·simp
 ·intro i h1 h2
  simp only [adb,aci,apr,aey,akO] at h1
  by_cases c:i=ks.length
  ·subst c
   rw [ape (by simp)]
   simp [iV]
  ·have hi:i<ks.length:=by omega
   rw [aqf (by simpa using hi)]
   simp only [anC,arK]
   rw [eX c,ab2,ab2,aeD hi]
theorem UC (hs:Nat→Value) (j:Nat) (v:Value):(fun t=>PD.raw (oh hs j v t))=oh (fun t=>PD.raw (hs t)) j (.raw v):=by
 funext t
 by_cases c:t=j
 ·subst c; rw [iV,iV]
 ·rw [eX c,eX c]
theorem RG {ks:List (List UInt8)} {d:Nat→PD} {j:Nat} (hn:ks.Nodup) (hj:j<ks.length):lS abZ 47 .string (.string (str ks[j])) ((iD ks d).map (·.1)) ((iD ks d).map (·.2)) true (d j):=by
 refine ⟨rfl,fun k hk=>?_,?_,j,by simp [iD,hj],?_,?_⟩
 ·rw [wO] at hk
  obtain ⟨x,_,rfl⟩:=acL.1 hk
  rfl
 ·rw [wO,List.Nodup,anO]
  exact hn.imp fun {a b} h e=>h (str_inj (Value.string.inj e))
 ·rw [wO]; simp [hj]
 ·simp [iD,hj]
theorem Ob {ks:List (List UInt8)} {d:Nat→PD} {k:List UInt8} (h:k∉ks):lS abZ 47 .string (.string (str k)) ((iD ks d).map (·.1)) ((iD ks d).map (·.2)) false (.raw (.slice none 0 0)):=by
 refine ⟨rfl,fun k' hk=>?_,aai⟩
 rw [wO] at hk
 obtain ⟨x,hx,rfl⟩:=acL.1 hk
 exact ⟨rfl,fun e=>h (str_inj (Value.string.inj e) ▸ hx)⟩
end Go.Proofs.Z
end
section
namespace Go.au
def Cx.gV (P:Program) (w:World) (G:Pub) (post:Exit→Act→World→Prop) (df:List Deferred) (rb:Nat→Option (Option (Nat × Nat))) (mp:Nat→Prop):Cx:=
 { P:=P,w0:=w,G0:=G,post:=post,mu:=fun b=>(∃ i p,rb i=some (some p)∧p.1=b)∨mp b,df:=df,iP:=rb,dr:=false }
section
variable (P:Program) (w:World) (G:Pub) (post:Exit→Act→World→Prop) (df:List Deferred) (rb:Nat→Option (Option (Nat × Nat))) (mp:Nat→Prop)
theorem oI:(Cx.gV P w G post df rb mp).P=P:=rfl
theorem tC (t:Nat):(Cx.gV P w G post df rb mp).vb0 t=none:=rfl
theorem tH (i:Nat):(Cx.gV P w G post df rb mp).iP i=rb i:=rfl
end
structure rG (C:Cx) (w:World) (G:Pub) (rb:Nat→Option (Option (Nat × Nat))) (mp:Nat→Prop):Prop where
 kept:Kept C.dr C.mu C.w0 w
 g0:∀ b o,C.G0 b o→G b o
 g1:∀ b o,G b o→C.G0 b o∨C.w0.heap.size≤b
 gw:∀ b o,G b o→b<w.heap.size
 own:∀ i p,rb i=some (some p)→C.w0.heap.size≤p.1∧p.1<w.heap.size∧∀ o,¬ G p.1 o
 map:∀ b,mp b→C.w0.heap.size≤b∧b<w.heap.size∧(∀ o,¬ G b o)∧∃ x,w.heap[b]? = some x∧∀ cs e d,x≠.cells cs e d
def iq (s:St) (E:Env):Nat→Option (Option (Nat × Nat)):=fun i=>if (s.row i).isSome=true then some (E.rb i) else none
theorem Oc {s:St} {E:Env} {i:Nat} (h:(s.row i).isSome=false):iq s E i=none:=by unfold iq; rw [h]; rfl
def kX (s:St):Nat→Prop:=fun r=>(s.map r).isSome=true
structure St.Bare (s:St) (n0:Nat):Prop where
 vars:s.vars=[]
 maps:∀ r m,s.map r=some m→n0≤r∧∃ a,m = .map a
 gs:s.gs=[]
 box:∀ t cs,s.get t≠.box cs
section
variable {C:Cx} {P:Program} {s:St} {a:Act} {w w1 w':World} {G1:Pub} {E:Env} {rb:Nat→Option (Option (Nat × Nat))} {mp:Nat→Prop} {post post':Exit→Act→World→Prop} {df:List Deferred} {e:TypeId} {n m:Nat} {hs:Nat→Value} {D:Nat→List PD} {k:List KI}
theorem aC.F8 (g:aC (Cx.gV P w1 G1 post df rb mp) s a w E):aC (Cx.gV P w1 G1 post' df rb mp) s a w E where
 kept:=g.kept
 defers:=g.defers
 size:=g.size
 g0:=g.g0
 g1:=g.g1
 gw:=g.gw
 tab:=g.tab
 slots:=g.slots
 bn:=g.bn
 vars:=g.vars
 rows:=g.rows
 maps:=fun r m h=>by
  have:=g.maps r m h
  cases m <;> exact this
 boxes:=g.boxes
 vv:=g.vv
 rr:=g.rr
 vr:=g.vr
 bb:=g.bb
 bv:=g.bv
 br:=g.br
 dN:=g.dN
 dF:=g.dF
 cZ:=g.cZ
theorem rG.keeps (N:rG C w1 G1 rb mp) (g:aC (Cx.gV P w1 G1 post df rb mp) s a w E):Keeps w1 G1 w E.G:=by
 have hb:∀ b o,G1 b o→w.heap[b]? = w1.heap[b]?:=fun b o h=>g.kept.block b (N.gw b o h) (by
  rintro (⟨i,p,h1,h2⟩ | h1)
  ·exact (N.own i p h1).2.2 o (h2 ▸ h)
  ·exact (N.map b h1).2.2.1 o h)
 exact ⟨g.g0,fun b o h=>World.cell?_of_block (a:=⟨b,o,none⟩) (hb b o h),fun b o h=>hb b o h⟩
def Apart (rb:Nat→Option (Option (Nat × Nat))) (m:Nat) (hs:Nat→Value):Prop:=∀ t i p,t<m→rb i=some (some p)→(hs t).ownBlock≠some p.1
theorem rG.heads (N:rG C w1 G1 rb mp) (g:aC (Cx.gV P w1 G1 post df rb mp) s a w E) (h:fK e n w1 G1 m hs D) (hap:Apart rb m hs):fK e n w E.G m hs D:=
 h.keep (fun b hlt hb=>g.kept.block b hlt (by
  obtain ⟨t,ht,hb⟩:=hb
  rintro (⟨i,p,h1,h2⟩ | h1)
  ·exact hap t i p ht h1 (h2 ▸ hb)
  ·obtain ⟨xs,ho,_⟩:=(h.own t ht).xs
   obtain ⟨_,_,_,hc,_⟩:=uS ho hb
   obtain ⟨_,_,_,x,hx,hne⟩:=N.map b h1
   rw [hc] at hx; cases hx
   exact hne _ _ _ rfl)) (fun b o ho=>g.g1 b o ho) (N.keeps g)
theorem rG.apart (N:rG C w1 G1 rb mp) (g:aC (Cx.gV P w1 G1 post df rb mp) s a w E) (h:fK e n w1 G1 m hs D) (hap:Apart rb m hs):Apart (iq s E) m hs:=by
 intro t i p ht hi hb
 unfold iq at hi
 split at hi
 ·rename_i hr
  obtain ⟨r,hr⟩:=akP.1 hr
  have hi:E.rb i=some p:=by simpa using hi
  cases h0:rb i with
  | none=>
   have h1:=g.cZ i r p hr hi h0
   have h2:=(h.own t ht).lt hb
   exact atf _ (ail h2 h1)
  | some q=>
   have h1:=g.dF i q h0
   rw [hi] at h1
   exact hap t i p ht (by rw [h0,h1]) hb
 ·cases hi
theorem rG.next (hdr:C.dr=false) (N:rG C w1 G1 rb mp) (g:aC (Cx.gV P w1 G1 post df rb mp) s a w E) (hb:s.Bare C.w0.heap.size) {row:Option Nat} (hw:w.grownBy w' row)
  (hr:∀ b,row=some b→C.w0.heap.size≤b∧(∀ o,¬ E.G b o)∧(∀ i p,iq s E i=some (some p)→p.1≠b)∧∀ r,kX s r→r≠b):rG C w' E.G (iq s E) (kX s)∧Keeps w E.G w' E.G∧aC (Cx.gV P w' E.G post df (iq s E) (kX s)) s a w' E:=by
 have hrow:∀ i r p,s.row i=some r→E.rb i=some p→iq s E i=some (some p):=fun i r p h1 h2=>by unfold iq; rw [h1]; exact (acA (by rfl:(some r).isSome=true)).trans (congrArg some h2)
 have WM:∀ i p,iq s E i=some (some p)→C.w0.heap.size≤p.1∧p.1<w.heap.size∧∀ o,¬ E.G p.1 o:=by
  intro i p hi
  unfold iq at hi
  split at hi
  ·rename_i hq
   obtain ⟨r,hq⟩:=akP.1 hq
   have hi:E.rb i=some p:=by simpa using hi
   rcases g.rows i r hq with ⟨h0,_⟩ | ⟨b,cap,cur,h1,m0,_⟩
   ·rw [h0] at hi; cases hi
   ·rw [h1] at hi; cases hi
    refine ⟨?_,m0.lt,m0.2.1⟩
    show C.w0.heap.size≤b
    rcases m0.1 with h2 | ⟨j,q,h2,h3⟩ | h2
    ·exact ahC N.kept.size h2
    ·have:=(N.own j q h2).1
     omega
    ·exact (N.map b h2).1
  ·cases hi
 have ah7:∀ r,kX s r→C.w0.heap.size≤r∧r<w.heap.size∧(∀ o,¬ E.G r o)∧∃ x,w.heap[r]? = some x∧∀ cs e d,x≠.cells cs e d:=by
  intro r hr'
  obtain ⟨m,hm⟩:=akP.1 hr'
  obtain ⟨h0,a',rfl⟩:=hb.maps r m hm
  have hM:MapAt w E.G r a':=g.maps r _ hm
  exact ⟨h0,hM.lt,hM.1,by obtain ⟨_,es,clock,h1,_⟩:=hM; exact ⟨_,h1,by intros; simp⟩⟩
 have hk:Keeps w E.G w' E.G:=by
  have hbl:∀ b o,E.G b o→w'.heap[b]? = w.heap[b]?:=fun b o h=>hw.block b (g.gw b o h) fun e=>(hr b e.symm).2.1 o h
  exact ⟨fun _ _ h=>h,fun b o h=>World.cell?_of_block (a:=⟨b,o,none⟩) (hbl b o h),fun b o h=>hbl b o h⟩
 have hs1:w1.heap.size≤w.heap.size:=g.kept.size
 have hs0:=N.kept.size
 refine ⟨⟨⟨?_,?_,?_,?_,?_,fun h=>by rw [hdr] at h; cases h⟩,fun b o h=>g.g0 b o (N.g0 b o h),fun b o h=>?_,fun b o h=>ail (g.gw b o h) hw.size,fun i p h=>⟨(WM i p h).1,ail (WM i p h).2.1 hw.size,(WM i p h).2.2⟩,
  fun r hr'=>by obtain ⟨h1,h2,h3,x,h4,h5⟩:=ah7 r hr'; exact ⟨h1,ail h2 hw.size,h3,x,(hw.block r h2 fun e=>(hr r e.symm).2.2.2 r hr' rfl).trans h4,h5⟩⟩,hk,?_⟩
 ·exact hw.os.trans (g.kept.os.trans N.kept.os)
 ·exact hw.tape.trans (g.kept.tape.trans N.kept.tape)
 ·exact hw.output.trans (g.kept.output.trans N.kept.output)
 ·have:=hw.size; omega
 ·intro b hlt hm
  refine (hw.block b (by omega) (fun e=>by have:=(hr b e.symm).1; omega)).trans ((g.kept.block b (show b<w1.heap.size by omega) ?_).trans (N.kept.block b hlt hm))
  rintro (⟨i,p,h1,h2⟩ | h1)
  ·have:=(N.own i p h1).1
   omega
  ·have:=(N.map b h1).1
   omega
 ·rcases g.g1 b o h with h1 | h1
  ·exact N.g1 b o h1
  ·exact .inr (ahC hs0 h1)
 have hvar:∀ t,s.var t=none:=fun t=>by simp [St.var,hb.vars,lk]
 have hgs:∀ t,s.eY t = .dead:=fun t=>by simp [St.eY,hb.gs,lk]
 exact {
  kept:=Kept.refl _ _ _
  defers:=g.defers
  size:=g.size
  g0:=fun _ _ h=>h
  g1:=fun _ _ h=>.inl h
  gw:=fun b o h=>ail (g.gw b o h) hw.size
  tab:=g.tab.keep hk
  slots:=fun t=>(g.slots t).keep hk rfl rfl
  bn:=fun t=>by rw [hgs]; trivial
  vars:=fun t cs h=>by rw [hvar] at h; cases h
  rows:=fun i r h=>by
   rcases g.rows i r h with h0 | ⟨b,cap,cur,h1,m0,h2,h3,h4,h5,h6⟩
   ·exact .inl h0
   ·refine .inr ⟨b,cap,cur,h1,⟨.inr (.inl ⟨i,(b,cap),hrow i r _ h h1,rfl⟩),m0.2.1,?_⟩,h2,h3,h4,h5,fun j q hj hq=>(h6 j q hj hq).keep hk⟩
    rw [hw.block b m0.lt fun e=>(hr b e.symm).2.2.1 i (b,cap) (hrow i r _ h h1) rfl]
    exact m0.2.2
  maps:=fun r m0 h=>by
   have hr':kX s r:=by show (s.map r).isSome=true; rw [h]; rfl
   obtain ⟨_,a',rfl⟩:=hb.maps r m0 h
   have hM:MapAt w E.G r a':=g.maps r _ h
   exact MapAt.keep hk hM.1 (hw.block r hM.lt fun e=>(hr r e.symm).2.2.2 r hr' rfl) hM
  boxes:=fun t cs h=>(hb.box t cs h).elim
  vv:=fun t t' cs cs' h=>by rw [hvar] at h; cases h
  rr:=g.rr
  vr:=fun t cs i r p h=>by rw [hvar] at h; cases h
  bb:=fun t t' cs cs' h=>(hb.box t cs h).elim
  bv:=fun t t' cs cs' h=>(hb.box t cs h).elim
  br:=fun t cs i r p h=>(hb.box t cs h).elim
  dN:=fun t b h=>by cases h
  dF:=fun i p h=>by
   have h:iq s E i=some p:=h
   unfold iq at h
   split at h
   ·simpa using h
   ·cases h
  cZ:=fun i r p h h1 h2=>by
   have h2:iq s E i=none:=h2
   rw [hrow i r p h h1] at h2; cases h2 }
theorem aC.amj (g:aC C s a w E) (hdr:C.dr=false) (hmu:∀ b,¬ C.mu b) (hb:s.Bare C.w0.heap.size):rG C w E.G (iq s E) (kX s)∧aC (Cx.gV C.P w E.G post C.df (iq s E) (kX s)) s a w E:=by
 have hrow:∀ i r p,s.row i=some r→E.rb i=some p→iq s E i=some (some p):=fun i r p h1 h2=>by unfold iq; rw [h1]; exact (acA (by rfl:(some r).isSome=true)).trans (congrArg some h2)
 have hvar:∀ t,s.var t=none:=fun t=>by simp [St.var,hb.vars,lk]
 have hgs:∀ t,s.eY t = .dead:=fun t=>by simp [St.eY,hb.gs,lk]
 refine ⟨⟨g.kept,g.g0,g.g1,g.gw,fun i p hi=>?_,fun r hr'=>by
  obtain ⟨m,hm⟩:=akP.1 hr'
  obtain ⟨h0,a',rfl⟩:=hb.maps r m hm
  have hM:MapAt w E.G r a':=g.maps r _ hm
  exact ⟨h0,hM.lt,hM.1,by obtain ⟨_,es,clock,h1,_⟩:=hM; exact ⟨_,h1,by intros; simp⟩⟩⟩,?_⟩
 ·unfold iq at hi
  split at hi
  ·rename_i hq
   obtain ⟨r,hq⟩:=akP.1 hq
   have hi:E.rb i=some p:=by simpa using hi
   rcases g.rows i r hq with ⟨h0,_⟩ | ⟨b,cap,cur,h1,m0,_⟩
   ·rw [h0] at hi; cases hi
   ·rw [h1] at hi; cases hi
    refine ⟨?_,m0.lt,m0.2.1⟩
    rcases m0.1 with h2 | h2
    ·exact h2
    ·exact (hmu _ h2).elim
  ·cases hi
 exact {
  kept:=Kept.refl _ _ _
  defers:=g.defers
  size:=g.size
  g0:=fun _ _ h=>h
  g1:=fun _ _ h=>.inl h
  gw:=g.gw
  tab:=g.tab
  slots:=g.slots
  bn:=fun t=>by rw [hgs]; trivial
  vars:=fun t cs h=>by rw [hvar] at h; cases h
  rows:=fun i r h=>by
   rcases g.rows i r h with h0 | ⟨b,cap,cur,h1,m0,h2⟩
   ·exact .inl h0
   ·exact .inr ⟨b,cap,cur,h1,⟨.inr (.inl ⟨i,(b,cap),hrow i r _ h h1,rfl⟩),m0.2⟩,h2⟩
  maps:=fun r m0 h=>by
   obtain ⟨_,a',rfl⟩:=hb.maps r m0 h
   have hM:MapAt w E.G r a':=g.maps r _ h
   exact hM
  boxes:=fun t cs h=>(hb.box t cs h).elim
  vv:=fun t t' cs cs' h=>by rw [hvar] at h; cases h
  rr:=g.rr
  vr:=fun t cs i r p h=>by rw [hvar] at h; cases h
  bb:=fun t t' cs cs' h=>(hb.box t cs h).elim
  bv:=fun t t' cs cs' h=>(hb.box t cs h).elim
  br:=fun t cs i r p h=>(hb.box t cs h).elim
  dN:=fun t b h=>by cases h
  dF:=fun i p h=>by
   have h:iq s E i=some p:=h
   unfold iq at h
   split at h
   ·simpa using h
   ·cases h
  cZ:=fun i r p h h1 h2=>by
   have h2:iq s E i=none:=h2
   rw [hrow i r p h h1] at h2; cases h2 }
theorem rG.back (hdr:C.dr=false) (hvb:C.vb0=fun _=>none) (hrb:C.iP=fun _=>none) (hdf:df=C.df) (hP:P=C.P) (N:rG C w1 G1 rb mp) (g:aC (Cx.gV P w1 G1 post df rb mp) s a w E) (hb:s.Bare C.w0.heap.size):aC C s a w E:=by
 subst hdf hP
 have hvar:∀ t,s.var t=none:=fun t=>by simp [St.var,hb.vars,lk]
 have hgs:∀ t,s.eY t = .dead:=fun t=>by simp [St.eY,hb.gs,lk]
 have hs1:w1.heap.size≤w.heap.size:=g.kept.size
 have hs0:=N.kept.size
 have mo:∀ b,(w1.heap.size≤b∨(∃ i p,rb i=some (some p)∧p.1=b)∨mp b)→C.w0.heap.size≤b:=by
  rintro b (h | ⟨i,p,h1,h2⟩ | h)
  ·omega
  ·have:=(N.own i p h1).1; omega
  ·exact (N.map b h).1
 exact {
  kept:=⟨g.kept.os.trans N.kept.os,g.kept.tape.trans N.kept.tape,g.kept.output.trans N.kept.output,by omega,fun b hlt hm=>by
   refine (g.kept.block b (show b<w1.heap.size by omega) ?_).trans (N.kept.block b hlt hm)
   intro h
   have:=mo b (.inr h)
   omega,fun h=>by rw [hdr] at h; cases h⟩
  defers:=g.defers
  size:=g.size
  g0:=fun b o h=>g.g0 b o (N.g0 b o h)
  g1:=fun b o h=>by
   rcases g.g1 b o h with h1 | h1
   ·exact N.g1 b o h1
   ·exact .inr (ahC hs0 h1)
  gw:=g.gw
  tab:=g.tab
  slots:=g.slots
  bn:=fun t=>by rw [hgs]; trivial
  vars:=fun t cs h=>by rw [hvar] at h; cases h
  rows:=fun i r h=>by
   rcases g.rows i r h with h0 | ⟨b,cap,cur,h1,m0,h2⟩
   ·exact .inl h0
   ·exact .inr ⟨b,cap,cur,h1,⟨.inl (mo b m0.1),m0.2⟩,h2⟩
  maps:=fun r m0 h=>by
   obtain ⟨_,a',rfl⟩:=hb.maps r m0 h
   have hM:MapAt w E.G r a':=g.maps r _ h
   exact hM
  boxes:=fun t cs h=>(hb.box t cs h).elim
  vv:=fun t t' cs cs' h=>by rw [hvar] at h; cases h
  rr:=g.rr
  vr:=fun t cs i r p h=>by rw [hvar] at h; cases h
  bb:=fun t t' cs cs' h=>(hb.box t cs h).elim
  bv:=fun t t' cs cs' h=>(hb.box t cs h).elim
  br:=fun t cs i r p h=>(hb.box t cs h).elim
  dN:=fun t b h=>by rw [hvb] at h; cases h
  dF:=fun i p h=>by rw [hrb] at h; cases h
  cZ:=fun i r p h h1 h2=>by
   rcases g.rows i r h with ⟨h0,_⟩ | ⟨b,cap,cur,h3,m0,_⟩
   ·rw [h0] at h1; cases h1
   ·rw [h3] at h1; cases h1
    exact mo _ m0.1 }
theorem R.F9 {all:Array Oper} {l:List Oper} {o:Oper} {x y:Operand} {t d j:Nat} {d':PD} {inf:TypeInfo} {z:Value} {bytes:Nat} (hdr:C.dr=false) (N:rG C w1 G1 rb mp) (H:fK e C.w0.heap.size w1 G1 m hs D) (A:Apart rb m hs) (hbk:uw k=true) (hb:s.Bare C.w0.heap.size)
  (ho:o.op = .call ⟨.builtin .append,#[x,y],#[t,t]⟩) (hg:o.guard=none) (hd:o.dst=some d) (hn:d<s.n) (hj:j<m) (hx:aU s x = .pd (.raw (hs j))) (hy:aU s y = .pd (.list 1 [d'])) (hwd:d'.width=1)
  (hu:P.underlying t=some (.slice e)) (hi:P.info? e=some inf) (hz:inf.zero=some z) (hsz:inf.size=1) (hby:inf.bytes=bytes) (hzs:z.cells.size=1) (hm:(D j).length+1≤maxLen) (hbt:((D j).length+1) * bytes≤140737488355328)
  (next:∀ w2 G2 kY kZ v',rG C w2 G2 kY kZ→fK e C.w0.heap.size w2 G2 m (oh hs j v') (oh D j (D j++[d']))→Apart kY m (oh hs j v')→(∀ i,(s.row i).isSome=false→kY i=none)→(∀ r,kX s r→kZ r)→R (Cx.gV P w2 G2 post df kY kZ) (.ops all l::k) (s.set d (.pd (.raw v')))):
  R (Cx.gV P w1 G1 post df rb mp) (.ops all (o::l)::k) s:=by
 intro a w E g
 have H1:=N.heads g H A
 have A1:=N.apart g H A
 have hv:a.eval x=hs j:=by have:=aV g x; rw [hx] at this; exact aK.aJ this
 have hyv:=aV g y
 rw [hy] at hyv
 obtain ⟨xs,hown,hrd⟩:=(H1.own j hj).xs
 rcases Ey g (x:=.pd (.list 1 [d'])) (es:=[d']) rfl hyv (sz:=1) (fun i hi=>by simp at hi; subst hi; simpa using hwd) with ⟨_,h0⟩ | ⟨b2,off,c,news,hy1,hnl,hnc,hn1,hnr⟩
 ·cases h0
 obtain ⟨u,rfl⟩:∃ u,news=[u]:=aeT.1 (by simpa using hnl)
 have hu1:u.oneCell'=true:=hn1 u (by simp)
 have hur:Rd w E.G u (d'.cell 0):=by simpa using hnr 0 0 (by simp) (by decide)
 refine Go.Proofs.Z.BU hg x y t ho e inf z 1 bytes hu hi hz hsz hby hzs (by decide) (hs j) (D j).length xs hv hown ⟨b2,off,none⟩ 1 c [u] hy1 (by simp) hnc (fun v hv=>hn1 v hv) hm hbt ?_
 intro v' w' hown' hgr hblk
 have hrow:∀ b,(hs j).ownBlock=some b→C.w0.heap.size≤b∧(∀ o,¬ E.G b o)∧(∀ i p,iq s E i=some (some p)→p.1≠b)∧∀ r,kX s r→r≠b:=fun b hb'=>
  ⟨((H1.own j hj).low b hb').1,((H1.own j hj).low b hb').2,fun i p h1 h2=>A1 j i p hj h1 (h2 ▸ hb'),fun r hr' e=>by
   subst e
   obtain ⟨m0,hm⟩:=akP.1 hr'
   obtain ⟨_,a',rfl⟩:=hb.maps r m0 hm
   obtain ⟨_,es,clock,h1,_⟩:MapAt w E.G r a':=g.maps r _ hm
   obtain ⟨_,ho,_⟩:=(H1.own j hj).xs
   obtain ⟨_,_,_,hc,_⟩:=uS ho hb'
   rw [hc] at h1; cases h1⟩
 obtain ⟨N2,hk2,g2⟩:=N.next hdr g hb hgr hrow
 have hs1:w1.heap.size≤w.heap.size:=g.kept.size
 have H2:Head e C.w0.heap.size w' E.G v' (D j++[d']):=(H1.own j hj).more (xs:=xs++[u]) (x:=u) (fun Ia ho0 _=>by
  have:Ia=xs:=by
   rcases ho0.2 with ⟨e1,h1⟩ | ⟨g1,cap,cur,e1,_,hg1,_,_,_,ht1⟩
   ·have h2:=ho0.1; have h3:=hown.1
    rw [h1] at h2 h3
    simp at h2 h3
    rw [h2,h3]
   ·rcases hown.2 with ⟨e2,_⟩ | ⟨g2,cap2,KT,e2,_,hg2,_,_,_,ht2⟩
    ·rw [e1] at e2; cases e2
    ·rw [e1] at e2; cases e2
     rw [hg1] at hg2; cases hg2
     rw [← ht1,← ht2]
  rw [this]) hown' hk2 hu1 hur hwd hgr.size hblk (ahC N.kept.size hs1) g.gw
 have H3:=H1.step hj hgr H2 hblk hk2
 have hA3:Apart (iq s E) m (oh hs j v'):=by
  intro t i p ht hi hb'
  by_cases c:t=j
  ·subst c
   rw [iV] at hb'
   rcases hblk with h1 | h1
   ·rw [h1] at hb'; exact A1 t i p ht hi hb'
   ·rw [h1] at hb'
    unfold iq at hi
    split at hi
    ·rename_i hq
     obtain ⟨r,hq⟩:=akP.1 hq
     have h2:=g.lN hq (p:=p) (by simpa using hi)
     simp only [acX] at hb'
     omega
    ·cases hi
  ·rw [eX c] at hb'
   exact A1 t i p ht hi hb'
 have hR:=next w' E.G (iq s E) (kX s) v' N2 H3 hA3 (fun i h=>Oc h) (fun _ h=>h)
 have g3:aC (Cx.gV P w' E.G post df (iq s E) (kX s)) (s.set d (.pd (.raw v'))) (a.put o.dst v') w' E:=by
  rw [hd]
  exact g2.put hn (Rd.raw _ (by
   rcases hown'.2 with ⟨rfl,_⟩ | ⟨_,_,_,rfl,_⟩ <;> rfl)) (by simp)
 have:=hR _ _ _ g3
 have hf:fin (Cx.gV P w' E.G post df (iq s E) (kX s)) k=fin (Cx.gV P w1 G1 post df rb mp) k:=jO (C:=Cx.gV P w1 G1 post df rb mp) (C2:=Cx.gV P w' E.G post df (iq s E) (kX s)) rfl rfl k hbk
 show wpList P all (fin (Cx.gV P w1 G1 post df rb mp) k) l _ _
 rw [← hf]
 exact this
theorem R.UD {c:Code} {ι:Type} (S:ι→(Nat→Value)→St) (DD:ι→Nat→List PD) (Inv:ι→(Nat→Value)→Prop) (μ:ι→Nat) (i0:ι) (hi0:Inv i0 hs) (N:rG C w1 G1 rb mp) (H:fK e C.w0.heap.size w1 G1 m hs (DD i0)) (A:Apart rb m hs) (hrb:∀ i,(∀ x h,((S x h).row i).isSome=false)→rb i=none) (hmp:∀ r,(∀ x h,kX (S x h) r)→mp r) (hs0:s=S i0 hs) (hbk:uw k=true)
  (round:∀ i hs w1 G1 rb mp,Inv i hs→rG C w1 G1 rb mp→fK e C.w0.heap.size w1 G1 m hs (DD i)→Apart rb m hs→(∀ i,(∀ x h,((S x h).row i).isSome=false)→rb i=none)→(∀ r,(∀ x h,kX (S x h) r)→mp r) →
   ∀ Q:Exit→Act→World→Prop,
   (∀ j hs' w2 G2 kY kZ,Inv j hs'→μ j<μ i→rG C w2 G2 kY kZ→fK e C.w0.heap.size w2 G2 m hs' (DD j)→Apart kY m hs'→(∀ i,(∀ x h,((S x h).row i).isSome=false)→kY i=none)→(∀ r,(∀ x h,kX (S x h) r)→kZ r)→R (Cx.gV P w2 G2 Q df kY kZ) [] (S j hs')) →
   (∀ id k',iW id k=some k'→∀ s2 w2 G2 kY kZ,R (Cx.gV P w2 G2 post df kY kZ) k' s2→∀ a w E,aC (Cx.gV P w2 G2 Q df kY kZ) s2 a w E→Q (.exit id) a w) →
   R (Cx.gV P w1 G1 Q df rb mp) [.code c] (S i hs)):R (Cx.gV P w1 G1 post df rb mp) (.code (.loop c)::k) s:=by
 subst hs0
 let I:Nat→Act→World→Prop:=fun n a w=>∃ i hs w1 G1 rb mp E,μ i=n∧Inv i hs∧rG C w1 G1 rb mp∧fK e C.w0.heap.size w1 G1 m hs (DD i)∧Apart rb m hs∧(∀ i,(∀ x h,((S x h).row i).isSome=false)→rb i=none)∧(∀ r,(∀ x h,kX (S x h) r)→mp r)∧aC (Cx.gV P w1 G1 post df rb mp) (S i hs) a w E
 refine R.loopS I (μ i0) (fun a w E g=>⟨i0,hs,w1,G1,rb,mp,E,rfl,hi0,N,H,A,hrb,hmp,g⟩) ?_
 rintro n a w ⟨i,hs,w1',G1',rb',mp',E,rfl,hI,N,H,A,amk,aml,g⟩
 have hf:∀ w2 G2 kY kZ,fin (Cx.gV P w2 G2 post df kY kZ) k=fin (Cx.gV P w1 G1 post df rb mp) k:=fun w2 G2 kY kZ=>jO (C:=Cx.gV P w1 G1 post df rb mp) (C2:=Cx.gV P w2 G2 post df kY kZ) rfl rfl k hbk
 refine (round i hs w1' G1' rb' mp' hI N H A amk aml (Exit.then (fun a' w'=>∃ n',n' < μ i∧I n' a' w') (fin (Cx.gV P w1 G1 post df rb mp) k)) ?_ ?_) a w E g.F8
 ·intro j hs' w2 G2 kY kZ hj hlt N2 H2 A2 zx D9 a' w' E' g'
  exact ⟨μ j,hlt,j,hs',w2,G2,kY,kZ,E',rfl,hj,N2,H2,A2,zx,D9,g'.F8⟩
 ·intro id k' he s2 w2 G2 kY kZ hR a' w' E' g'
  show fin (Cx.gV P w1 G1 post df rb mp) k (.exit id) a' w'
  rw [← hf w2 G2 kY kZ]
  exact rQ he a' w' (hR a' w' E' g'.F8)
theorem R.ada (m:Nat) (e:TypeId) (hdr:C.dr=false) (hmu:∀ b,¬ C.mu b) (hb:s.Bare C.w0.heap.size) (hbk:uw k=true)
  (next:∀ w G rb mp,rG C w G rb mp→fK e C.w0.heap.size w G m (fun _=>.slice none 0 0) (fun _=>[])→Apart rb m (fun _=>.slice none 0 0)→(∀ i,(s.row i).isSome=false→rb i=none)→(∀ r,kX s r→mp r)→R (Cx.gV C.P w G C.post C.df rb mp) k s):R C k s:=by
 intro a w E g
 obtain ⟨N,g'⟩:=g.amj (post:=C.post) hdr hmu hb
 have:=next w E.G (iq s E) (kX s) N ⟨fun _ _=>Head.nil,fun _ _ _ _ _ _ h=>by cases h⟩ (fun _ _ _ _ _ h=>by cases h) (fun i h=>Oc h) (fun _ h=>h) a w E g'
 rwa [jO (C:=C) (C2:=Cx.gV C.P w E.G C.post C.df (iq s E) (kX s)) rfl rfl k hbk] at this
theorem R.ah8 {i:Nat} {e2:TypeId} (hdr:C.dr=false) (hvb:C.vb0=fun _=>none) (hrb:C.iP=fun _=>none) (N:rG C w1 G1 rb mp) (H:fK e C.w0.heap.size w1 G1 m hs D) (A:Apart rb m hs) (hb:s.Bare C.w0.heap.size) (hbk:uw k=true)
  (hr:s.row i=some ⟨e2,1,(aeI m).map fun t=>.raw (hs t)⟩) (next:R C k (s.setRow i ⟨e2,1,(aeI m).map fun t=>.list 1 (D t)⟩)):R (Cx.gV C.P w1 G1 C.post C.df rb mp) k s:=by
 intro a w E g
 have H1:=N.heads g H A
 have A1:=N.apart g H A
 have g0:=N.back hdr hvb hrb rfl rfl g hb
 rw [jO (C:=C) (C2:=Cx.gV C.P w1 G1 C.post C.df rb mp) rfl rfl k hbk]
 have hk:Keeps w E.G w (fK.pub E.G m hs):=⟨fun _ _ h=>.inl h,fun _ _ _=>rfl,fun _ _ _=>rfl⟩
 have hvar:∀ t,s.var t=none:=fun t=>by simp [St.var,hb.vars,lk]
 have hgs:∀ t,s.eY t = .dead:=fun t=>by simp [St.eY,hb.gs,lk]
 have hrow:∀ j r',(s.setRow i ⟨e2,1,(aeI m).map fun t=>.list 1 (D t)⟩).row j=some r'→(j=i∧r'=⟨e2,1,(aeI m).map fun t=>.list 1 (D t)⟩)∨(j≠i∧s.row j=some r'):=by
  intro j r' h
  simp only [St.row,St.setRow,jA] at h
  split at h
  ·exact .inl ⟨by assumption,(Option.some.inj h).symm⟩
  ·exact .inr ⟨by assumption,h⟩
 have hex:∀ j r',(s.setRow i ⟨e2,1,(aeI m).map fun t=>.list 1 (D t)⟩).row j=some r'→∃ r0,s.row j=some r0∧r0.sz=r'.sz∧r0.ds.length=r'.ds.length:=by
  intro j r' h
  rcases hrow j r' h with ⟨rfl,rfl⟩ | ⟨_,h⟩
  ·exact ⟨_,hr,rfl,by simp⟩
  ·exact ⟨r',h,rfl,rfl⟩
 have hrel:∀ v x,Rel C.P w E s.row v x→Rel C.P w { E with G:=fK.pub E.G m hs } (s.setRow i ⟨e2,1,(aeI m).map fun t=>.list 1 (D t)⟩).row v x:=fun v x h=>(h.keep (E':={ E with G:=fK.pub E.G m hs }) hk rfl rfl).rowLen hex
 have zx:∀ j r p,s.row j=some r→E.rb j=some p→iq s E j=some (some p):=fun j r p h1 h2=>by unfold iq; rw [h1]; exact (acA (by rfl:(some r).isSome=true)).trans (congrArg some h2)
 have mo:∀ {j r b cap cur ty},s.row j=some r→E.rb j=some (b,cap)→Mine C E.G w b cur ty→Mine C (fK.pub E.G m hs) w b cur ty:=fun {j r b cap cur ty} h1 h2 m0=>⟨m0.1,fun o ho=>by
  rcases ho with ho | ⟨t,ht,ho⟩
  ·exact m0.2.1 o ho
  ·exact A1 t j (b,cap) ht (zx j r _ h1 h2) ho,m0.2.2⟩
 refine next a w { E with G:=fK.pub E.G m hs } ?_
 have hold:∀ j r',(s.setRow i ⟨e2,1,(aeI m).map fun t=>.list 1 (D t)⟩).row j=some r'→∃ r0,s.row j=some r0:=fun j r' h=>by obtain ⟨r0,h0,_⟩:=hex j r' h; exact ⟨r0,h0⟩
 exact {
  kept:=g0.kept
  defers:=g0.defers
  size:=g0.size
  g0:=fun b o h=>.inl (g0.g0 b o h)
  g1:=fun b o h=>by
   rcases h with h | ⟨t,ht,h⟩
   ·exact g0.g1 b o h
   ·exact .inr ((H1.own t ht).low b h).1
  gw:=fun b o h=>by
   rcases h with h | ⟨t,ht,h⟩
   ·exact g0.gw b o h
   ·exact (H1.own t ht).lt h
  tab:=g0.tab.keep hk
  slots:=fun t=>hrel _ _ (g0.slots t)
  bn:=fun t=>by
   show Rel _ _ _ _ _ (s.eY t)
   rw [hgs]; trivial
  vars:=fun t cs h=>by
   have h:s.var t=some cs:=h
   rw [hvar] at h; cases h
  rows:=fun j r' h=>by
   rcases hrow j r' h with ⟨rfl,rfl⟩ | ⟨_,h⟩
   ·rcases g0.rows j _ hr with ⟨h1,h2⟩ | ⟨b,cap,cur,h1,m0,h2,h3,h4,h5,h6⟩
    ·refine .inl ⟨h1,?_⟩
     have:(aeI m).length=0:=by have:=congrArg aeK h2; simpa using this
     simp at this
     subst this; rfl
    ·refine .inr ⟨b,cap,cur,h1,mo hr h1 m0,h2,by simpa using h3,h4,fun q hq=>?_,fun q u hq hu=>?_⟩
     ·simp only [aci,apr] at hq
      simp [hq,PD.width]
     ·simp only [aci,apr] at hq
      have hx:=h6 q u (by simpa using hq) hu
      obtain rfl:u=0:=by simp only at hu; omega
      have e1:((aeI m).map fun t=>PD.raw (hs t)).getD q (.aj []) = .raw (hs q):=by simp [hq]
      have e3:((aeI m).map fun t=>PD.list 1 (D t)).getD q (.aj []) = .list 1 (D q):=by simp [hq]
      simp only [e1] at hx
      simp only [e3]
      have hx:cur.getD (q * 1+0) undef=hs q:=aK.aJ hx
      rw [hx]
      exact H1.reads q hq
   ·rcases g0.rows j r' h with h0 | ⟨b,cap,cur,h1,m0,h2,h3,h4,h5,h6⟩
    ·exact .inl h0
    ·exact .inr ⟨b,cap,cur,h1,mo h h1 m0,h2,h3,h4,h5,fun q u hq hu=>(h6 q u hq hu).keep hk⟩
  maps:=fun r m0 h=>by
   have h:s.map r=some m0:=h
   obtain ⟨_,a',rfl⟩:=hb.maps r m0 h
   have hM:MapAt w E.G r a':=g0.maps r _ h
   exact MapAt.keep hk (fun o ho=>by
    rcases ho with ho | ⟨t,ht,ho⟩
    ·exact hM.1 o ho
    ·obtain ⟨_,es,clock,h1,_⟩:=hM
     obtain ⟨_,ho',_⟩:=(H1.own t ht).xs
     obtain ⟨_,_,_,hc,_⟩:=uS ho' ho
     rw [hc] at h1; cases h1) rfl hM
  boxes:=fun t cs h=>(hb.box t cs h).elim
  vv:=fun t t' cs cs' h=>by
   have h:s.var t=some cs:=h
   rw [hvar] at h; cases h
  rr:=fun j j' r r' p h h' hp p' hp' e=>by
   obtain ⟨q,hq⟩:=hold j r h
   obtain ⟨q',hq'⟩:=hold j' r' h'
   exact g0.rr j j' q q' p hq hq' hp p' hp' e
  vr:=fun t cs i r p h=>by
   have h:s.var t=some cs:=h
   rw [hvar] at h; cases h
  bb:=fun t t' cs cs' h=>(hb.box t cs h).elim
  bv:=fun t t' cs cs' h=>(hb.box t cs h).elim
  br:=fun t cs i r p h=>(hb.box t cs h).elim
  dN:=g0.dN
  dF:=g0.dF
  cZ:=fun j r p h h1 h2=>by
   obtain ⟨q,hq⟩:=hold j r h
   exact g0.cZ j q p hq h1 h2 }
theorem R.ad9 {r u:Nat} {key:Nat→Value} (hu:u≤m) (hdr:C.dr=false) (hvb:C.vb0=fun _=>none) (hrb:C.iP=fun _=>none) (N:rG C w1 G1 rb mp) (H:fK e C.w0.heap.size w1 G1 m hs D) (A:Apart rb m hs) (hb:s.Bare C.w0.heap.size) (hbk:uw k=true)
  (hr:s.map r=some (dR.map ((aeI u).map fun t=>(key t,PD.raw (hs t))))) (next:R C k { s with maps:=Go.au.up r (dR.map ((aeI u).map fun t=>(key t,.list 1 (D t)))) s.maps }):R (Cx.gV C.P w1 G1 C.post C.df rb mp) k s:=by
 intro a w E g
 have H1:=N.heads g H A
 have A1:=N.apart g H A
 have g0:=N.back hdr hvb hrb rfl rfl g hb
 rw [jO (C:=C) (C2:=Cx.gV C.P w1 G1 C.post C.df rb mp) rfl rfl k hbk]
 have hk:Keeps w E.G w (fK.pub E.G m hs):=⟨fun _ _ h=>.inl h,fun _ _ _=>rfl,fun _ _ _=>rfl⟩
 have hvar:∀ t,s.var t=none:=fun t=>by simp [St.var,hb.vars,lk]
 have hgs:∀ t,s.eY t = .dead:=fun t=>by simp [St.eY,hb.gs,lk]
 have hrel:∀ v x,Rel C.P w E s.row v x→Rel C.P w { E with G:=fK.pub E.G m hs } s.row v x:=fun v x h=>h.keep (E':={ E with G:=fK.pub E.G m hs }) hk rfl rfl
 have zx:∀ j r p,s.row j=some r→E.rb j=some p→iq s E j=some (some p):=fun j r p h1 h2=>by unfold iq; rw [h1]; exact (acA (by rfl:(some r).isSome=true)).trans (congrArg some h2)
 have mo:∀ {j r b cap cur ty},s.row j=some r→E.rb j=some (b,cap)→Mine C E.G w b cur ty→Mine C (fK.pub E.G m hs) w b cur ty:=fun {j r b cap cur ty} h1 h2 m0=>⟨m0.1,fun o ho=>by
  rcases ho with ho | ⟨t,ht,ho⟩
  ·exact m0.2.1 o ho
  ·exact A1 t j (b,cap) ht (zx j r _ h1 h2) ho,m0.2.2⟩
 have free:∀ {b a'},MapAt w E.G b a'→∀ o,¬ fK.pub E.G m hs b o:=by
  intro b a' hM o ho
  rcases ho with ho | ⟨t,ht,ho⟩
  ·exact hM.1 o ho
  ·obtain ⟨_,es,clock,h1,_⟩:=hM
   obtain ⟨_,ho',_⟩:=(H1.own t ht).xs
   obtain ⟨_,_,_,hc,_⟩:=uS ho' ho
   rw [hc] at h1; cases h1
 refine next a w { E with G:=fK.pub E.G m hs } ?_
 exact {
  kept:=g0.kept
  defers:=g0.defers
  size:=g0.size
  g0:=fun b o h=>.inl (g0.g0 b o h)
  g1:=fun b o h=>by
   rcases h with h | ⟨t,ht,h⟩
   ·exact g0.g1 b o h
   ·exact .inr ((H1.own t ht).low b h).1
  gw:=fun b o h=>by
   rcases h with h | ⟨t,ht,h⟩
   ·exact g0.gw b o h
   ·exact (H1.own t ht).lt h
  tab:=g0.tab.keep hk
  slots:=fun t=>hrel _ _ (g0.slots t)
  bn:=fun t=>by
   show Rel _ _ _ _ _ (s.eY t)
   rw [hgs]; trivial
  vars:=fun t cs h=>by
   have h:s.var t=some cs:=h
   rw [hvar] at h; cases h
  rows:=fun j r' h=>by
   have h:s.row j=some r':=h
   rcases g0.rows j r' h with h0 | ⟨b,cap,cur,h1,m0,h2,h3,h4,h5,h6⟩
   ·exact .inl h0
   ·exact .inr ⟨b,cap,cur,h1,mo h h1 m0,h2,h3,h4,h5,fun q u hq hu=>(h6 q u hq hu).keep hk⟩
  maps:=fun q m0 h=>by
   simp only [St.map,jA] at h
   split at h
   ·rename_i hq
    subst hq
    cases h
    have hM:MapAt w E.G q ((aeI u).map fun t=>(key t,.raw (hs t))):=g0.maps q _ hr
    have hf:=free hM
    obtain ⟨_,es,clock,h1,h2,h3,h4,h5,h6⟩:=hM
    refine ⟨hf,es,clock,h1,by simpa using h2,fun i hi=>?_,h4,h5,by simpa [anY,Function.comp_def] using h6⟩
    simp only [aci,apr] at hi
    obtain ⟨k1,k2⟩:=h3 i (by simpa using hi)
    have e1:((aeI u).map fun t=>(key t,PD.raw (hs t))).getD i (undef,.aj [])=(key i,.raw (hs i)):=by simp [hi]
    have e2:((aeI u).map fun t=>(key t,PD.list 1 (D t))).getD i (undef,.aj [])=(key i,.list 1 (D i)):=by simp [hi]
    rw [e1] at k1 k2
    rw [e2]
    refine ⟨k1,?_⟩
    rw [aK.aJ k2]
    exact H1.reads i (by omega)
   ·have h:s.map q=some m0:=h
    obtain ⟨_,a',rfl⟩:=hb.maps q m0 h
    have hM:MapAt w E.G q a':=g0.maps q _ h
    exact MapAt.keep hk (free hM) rfl hM
  boxes:=fun t cs h=>(hb.box t cs h).elim
  vv:=fun t t' cs cs' h=>by
   have h:s.var t=some cs:=h
   rw [hvar] at h; cases h
  rr:=g0.rr
  vr:=fun t cs i r p h=>by
   have h:s.var t=some cs:=h
   rw [hvar] at h; cases h
  bb:=fun t t' cs cs' h=>(hb.box t cs h).elim
  bv:=fun t t' cs cs' h=>(hb.box t cs h).elim
  br:=fun t cs i r p h=>(hb.box t cs h).elim
  dN:=g0.dN
  dF:=g0.dF
  cZ:=g0.cZ }
end
def late (i:Nat) (js:List Nat) (all:Array Oper):Array Oper:=all.mapIdx fun j o=>if js.contains j then { o with after:=o.after.push ⟨i,o.after.back?.map (·.ground) |>.getD default⟩ } else o
section
variable {P:Program} {all:Array Oper} {Q:Exit→Act→World→Prop} {i:Nat} {js:List Nat}
theorem Jh (j:Nat):(late i js all)[j]? = (all[j]?).map fun o=>if js.contains j then { o with after:=o.after.push ⟨i,o.after.back?.map (·.ground) |>.getD default⟩ } else o:=by
 unfold late
 rw [Array.getElem?_mapIdx]
theorem abS (g:Nat):((late i js all)[g]?).bind (·.dst)=(all[g]?).bind (·.dst):=by
 rw [Jh]
 cases all[g]? with
 | none=>rfl
 | some o=>
  simp only [aiq,anK]
  split <;> rfl
theorem RH (t:Array Value):yielded (late i js all) t=yielded all t:=by
 funext g
 unfold yielded
 rw [abS]
theorem Oe (j:Nat) (K:Act→World→Prop) (a:Act) (w:World):wpOp P (late i js all) Q j K a w↔wpOp P all Q j K a w:=by
 unfold wpOp
 rw [Jh,RH]
 cases all[j]? with
 | none=>exact Iff.rfl
 | some o=>
  simp only [aiq]
  split <;> exact Iff.rfl
theorem zy (L:Array Bool) (hL:L.getD i false=true):anX .any (late i js all) L=anX .any all L:=by
 unfold anX
 have hs:(late i js all).size=all.size:=by unfold late; simp
 rw [hs]
 refine ath fun j _=>?_
 rw [Jh]
 cases all[j]? with
 | none=>rfl
 | some o=>
  simp only [aiq,aeN]
  split
  ·rw [Array.all_push]
   simp only [hL,aty,ate]
  ·rfl
theorem Oz {L:Array Bool} {i j:Nat} (h:L.getD i false=true):(L.setIfInBounds j true).getD i false=true:=getD_set_true h
theorem RI:∀ (fuel:Nat) (L:Array Bool) (a:Act) (w:World),L.getD i false=true→wpAny P .any (late i js all) Q fuel L a w→wpAny P .any all Q fuel L a w
 | 0,L,a,w,hL,h=>by
  simp only [wpAny] at h ⊢
  rw [zy L hL] at h
  exact h
 | fuel+1,L,a,w,hL,h=>by
  simp only [wpAny] at h ⊢
  rw [zy L hL] at h
  exact ⟨h.1,fun j hj=>wpOp_mono (fun a w h'=>RI fuel _ a w (Oz hL) h') ((Oe j _ a w).1 (h.2 j hj))⟩
theorem Zx {x:Operand} {oi:Oper} {fuel:Nat} {L:Array Bool} {a:Act} {w:World} (hi:all[i]? = some oi) (hop:oi.op = .move x) (hg:oi.guard=none) (hns:awJ all=true) (hf:Region.free .any all L i=true) (hr:(anX .any all L).contains i=true)
  (hr2:(anX .any (late i js all) L).contains i=true) (hlt:i<L.size) (hQ:∀ c a' w',¬ Q (.panic c) a' w') (h:wpAny P .any (late i js all) Q (fuel+1) L a w):wpAny P .any all Q (fuel+1) L a w:=by
 have hy:Yields P all oi (a.eval x) a:=.inl ⟨by simp [anU,hg],fun w=>by simp [execOp,hop]⟩
 refine wpAny_take hi hns hf hr (fun c a' w' h=>(hQ _ _ _ h).elim) hy ?_
 refine RI (i:=i) (js:=js) fuel _ _ _ (by simp [hlt]) ?_
 have h1:=(Oe i _ a w).1 (h.2 i (by simpa using hr2))
 unfold wpOp at h1
 simp only [hi] at h1
 have hw:anU oi (yielded all a.tmps)=true:=by simp [anU,hg]
 rw [acA hw] at h1
 rcases h1 with h1 | ⟨h1,_⟩
 ·simpa [Oper.wp,execOp,hop,Oper.upon] using h1
 ·exfalso
  simp [Oper.asks,execOp,hop] at h1
  have h1:noRoomEvent∈(#[]:Array Event):=h1
  simp at h1
theorem Og:(late i js all).size=all.size:=by simp [late]
theorem SY:(late i js all).toList=all.toList.mapIdx fun j o=>if js.contains j then { o with after:=o.after.push ⟨i,o.after.back?.map (·.ground) |>.getD default⟩ } else o:=by simp [late]
def OO (i:Nat) (js:List Nat) (all:Array Oper):Bool:=
 (match all[i]? with | some o=>(match o.op with | .move _=>o.guard.isNone | _=>false) | none=>false)&&awJ all&&Region.free .any all (aew all.size false) i&&(anX .any all (aew all.size false)).contains i&&(anX .any (late i js all) (aew all.size false)).contains i
theorem UE {a:Act} {w:World} (h:OO i js all=true) (hQ:∀ c a' w',¬ Q (.panic c) a' w') (hw:wpAny P .any (late i js all) Q all.size (aew all.size false) a w):wpAny P .any all Q all.size (aew all.size false) a w:=by
 unfold OO at h
 simp only [aeC] at h
 obtain ⟨⟨⟨⟨h1,h2⟩,h3⟩,h4⟩,h5⟩:=h
 split at h1
 ·rename_i o ho
  split at h1
  ·rename_i x hop
   have hlt:i<all.size:=(acR.1 ho).1
   obtain ⟨f,hf⟩:∃ f,all.size=f+1:=⟨all.size - 1,by omega⟩
   rw [hf] at hw h3 h4 h5 ⊢
   exact Zx ho hop (by simpa using h1) h2 h3 h4 h5 (by simp; omega) hQ hw
  ·cases h1
 ·cases h1
end
theorem R.aea {P:Program} {w1:World} {G1:Pub} {post:Exit→Act→World→Prop} {df:List Deferred} {rb:Nat→Option (Option (Nat × Nat))} {mp:Nat→Prop} {k:List KI} {s:St} {id:Nat} {all:Array Oper} (i1 i2:Nat) (js:List Nat) (n m:Nat) (hm:P.follows .mixedOrders=true)
  (h1:OO i1 js all=true) (h2:OO i2 js (late i1 js all)=true) (hB:BM (late i2 js (late i1 js all)) n=true) (hbk:uw k=true)
  (h:∀ post':Exit→Act→World→Prop,(∀ s2 w2 G2 kY kZ,R (Cx.gV P w2 G2 post df kY kZ) k s2→R (Cx.gV P w2 G2 post' df kY kZ) [] s2) →
   BH (Cx.gV P w1 G1 post' df rb mp) (late i2 js (late i1 js all)) ((late i2 js (late i1 js all)).toList.drop n) [] m ((late i2 js (late i1 js all)).toList.take n) s):R (Cx.gV P w1 G1 post df rb mp) (.code (.region id all true)::k) s:=by
 intro a w E g
 have hc:∀ s2 w2 G2 kY kZ,R (Cx.gV P w2 G2 post df kY kZ) k s2→R (Cx.gV P w2 G2 (fun e a w=>e = .normal∧fin (Cx.gV P w1 G1 post df rb mp) k .normal a w) df kY kZ) [] s2:=by
  intro s2 w2 G2 kY kZ hR a w E g
  refine ⟨rfl,?_⟩
  have:=hR a w E g.F8
  rwa [jO (C:=Cx.gV P w1 G1 post df rb mp) (C2:=Cx.gV P w2 G2 post df kY kZ) rfl rfl k hbk] at this
 have hwp:=PO n m hB (h _ hc) g.F8
 have hQ:∀ c a' w',¬ fin (Cx.gV P w1 G1 (fun e a w=>e = .normal∧fin (Cx.gV P w1 G1 post df rb mp) k .normal a w) df rb mp) [] (.panic c) a' w':=fun c a' w' h=>by cases h.1
 rw [Og] at hwp
 have h3:=UE h2 hQ hwp
 rw [Og] at h3
 have h4:=UE h1 hQ h3
 refine wp_mono (wp_region_any hm h4) ?_
 rintro e a' w' ⟨rfl,hq⟩
 exact hq
end Go.au
end
section
namespace Go.Proofs.Z
open Go Go.au Go.Proofs
set_option maxRecDepth 10000
set_option maxHeartbeats 4000000
set_option maxHeartbeats 8000000
theorem akz:aH abZ 29:=fun _ _=>by kernel_rfl
def KJ:List (Nat × SV)→Bool
 | []=>true
 | (_,.box _)::_=>false
 | _::l=>KJ l
theorem RJ {t:Nat} {cs:List Value}:∀ {l:List (Nat × SV)},KJ l=true→lk t l≠some (.box cs)
 | [],_=>by simp [lk]
 | (i,x)::l,h=>by
  have h2:KJ l=true:=by cases x <;> first | exact h | cases h
  simp only [lk]
  split
  ·intro e
   cases e
   cases h
  ·exact RJ h2
theorem GI {s:St} {n0:Nat} (h1:s.vars=[]) (h2:s.maps=[]) (h3:s.gs=[]) (h4:KJ s.slots=true):s.Bare n0 where
 vars:=h1
 maps:=fun r m h=>by rw [St.map,h2] at h; simp [lk] at h
 gs:=h3
 box:=fun t cs h=>by
  unfold St.get at h
  cases e:lk t s.slots with
  | none=>rw [e] at h; cases h
  | some x=>
   rw [e] at h
   have h:x = .box cs:=h
   exact RJ (t:=t) (cs:=cs) h4 (by rw [e,h])
def oJ (facts:List bQ) (S:List Int) (t:Nat):List (List V):=S.filterMap (rowAt facts t)
def DT (facts:List bQ) (S:List Int) (k t:Nat):List PD:=(oJ facts (S.take k) t).map vals
theorem aeb {facts:List bQ} {S:List Int} {k:Nat} (hk:k<S.length) (h:¬ (0≤S[k]∧S[k].toNat<facts.length)):DT facts S (k+1)=DT facts S k:=by
 funext t
 unfold DT oJ
 have:rowAt facts t S[k]=none:=by
  unfold rowAt
  split
  ·rename_i h0
   rw [ak3 (by omega)]; rfl
  ·rfl
 rw [ab3 hk,aqR]
 simp [this]
theorem aec {facts:List bQ} {S:List Int} {k i j:Nat} (hk:k<S.length) (hS:S[k]=(i:Int)) (hi:i<facts.length) (ht:facts[i].table=(j:Int)):DT facts S (k+1)=oh (DT facts S k) j (DT facts S k j++[vals facts[i].row]):=by
 funext t
 have hrow:rowAt facts t S[k]=if t=j then some facts[i].row else none:=by
  unfold rowAt
  rw [hS,acA (by omega),Int.toNat_natCast,aeE hi,anK,ht]
  by_cases c:t=j
  ·rw [acA (by omega),acA c]
  ·rw [acg (by omega),acg c]
 have e:DT facts S (k+1) t=DT facts S k t++(if t=j then [vals facts[i].row] else []):=by
  unfold DT oJ
  rw [ab3 hk,aqR,aeh]
  congr 1
  by_cases c:t=j
  ·rw [acA c] at hrow ⊢; simp [hrow]
  ·rw [acg c] at hrow ⊢; simp [hrow]
 rw [e]
 by_cases c:t=j
 ·subst c; rw [acA rfl,iV]
 ·rw [acg c,eX c,amG]
theorem ah9 (facts:List bQ) (S:List Int) (k t:Nat):(DT facts S k t).length≤S.length:=by
 unfold DT oJ
 rw [aci]
 have h1:=aor (rowAt facts t) (S.take k)
 rw [akY] at h1; omega
theorem WO {facts:List bQ} {S:List Int} {t:Nat} {r:List V} (h:r∈oJ facts S t):∃ f∈facts,f.row=r:=by
 obtain ⟨i,_,h⟩:=amJ.1 h
 unfold rowAt at h
 split at h
 ·obtain ⟨f,hf,h⟩:=aqh.1 h
  split at h
  ·exact ⟨f,asB hf,by simpa using h⟩
  ·cases h
 ·cases h
def TS (facts:List bQ) (S:List Int) (n k:Nat):List (List (List V)):=(aeI n).map fun t=>if t<k then vN facts S t else oJ facts S t
theorem aia {facts:List bQ} {S:List Int} {n k:Nat} (hk:k<n):((TS facts S n k).map bI).set k (bI (vN facts S k))=(TS facts S n (k+1)).map bI:=by
 apply akV
 ·simp [TS]
 ·intro i h1 h2
  simp only [TS,anY,anC,aqV,arK,Function.comp]
  by_cases c:k=i
  ·subst c; rw [acA rfl,acA (by omega)]
  ·rw [acg c]
   by_cases d:i<k
   ·rw [acA d,acA (by omega)]
   ·rw [acg d,acg (by omega)]
theorem Gf (facts:List bQ) (S:List Int) (n k:Nat):(TS facts S n k).length=n:=by simp [TS]
theorem akA {facts:List bQ} {S:List Int} {n k:Nat} (hk:k<n):(TS facts S n k)[k]'(by rw [Gf]; exact hk)=oJ facts S k:=by simp [TS]
theorem aed (tl:List bU) (facts:List bQ) (S:List Int):TS facts S tl.length tl.length=bF tl facts S:=by
 unfold TS bF
 refine akZ fun t ht=>?_
 rw [acA (aoR.1 ht)]
theorem abT (facts:List bQ) (S:List Int) (n:Nat):(TS facts S n 0).map bI=(aeI n).map fun t=>PD.list 1 (DT facts S S.length t):=by
 unfold TS DT
 rw [anY]
 refine akZ fun t _=>?_
 simp
theorem UF:(abZ.info? 37).map (fun i=>(i.zero,i.size,i.bytes))=some (some (.slice none 0 0),1,24):=by kernel_rfl
theorem aee:(abZ.info? 47).map (fun i=>(i.zero,i.size,i.bytes))=some (some (.slice none 0 0),1,24):=by kernel_rfl
theorem Zy {n j:Nat} (f:Nat→Value) (v:Value) (hj:j<n):((aeI n).map fun t=>PD.raw (f t)).set j (.raw v)=(aeI n).map fun t=>PD.raw (oh f j v t):=by
 apply akV
 ·simp
 ·intro i h1 h2
  simp only [anC,aqV,arK]
  by_cases c:j=i
  ·subst c; rw [acA rfl,iV]
  ·rw [acg c,eX (fun e=>c e.symm)]
def ST (tl:List bU) (facts:List bQ) (S:List Int) (k:Nat) (hs:Nat→Value):St:=⟨74,[(1,.pd (fM facts)),(7,.own 7),(16,.pd (ints S)),(17,.pd (I S.length)),(18,.pd (I k))],[],[(7,⟨47,1,(aeI tl.length).map fun t=>.raw (hs t)⟩)],[],[]⟩
theorem Zz (tl:List bU) (facts:List bQ) (S:List Int) (hf:iI tl facts) (htl:tl.length≤100000000) (hS:S.length≤1000000) (hr:∀ f∈facts,f.row.length≤1000000000):aS abZ 29 [.pd (schema tl),.pd (fM facts),.pd (ints S)] [jl (bF tl facts S)]:=by
 obtain ⟨i0,hi1,hz,hsz,hby⟩:=info_parts UF
 refine aS.mk Tryz.func29 rfl akz (by simp [Tryz.ntmps29]) fun w G=>?_
 refine aNF ?_
 refine R.bW 3 (schema tl) rfl (fun _ h=>h) rfl ?_
 simp only [go_sem,St.bW,SV.bW]
 refine aNF ?_
 refine R.Uj (d:=15) 7 rfl rfl rfl rfl (by (simp only [go_sem])) rfl rfl aal aee rfl rfl (by omega) (by unfold maxLen; omega) ?_
 refine aNF ?_
 have hrep:List.replicate tl.length (PD.raw (.slice none 0 0))=(aeI tl.length).map fun _=>PD.raw (.slice none 0 0):=by
  apply akV
  ·simp
  ·intro i h1 h2; simp
 rw [hrep]
 refine R.to (ST tl facts S 0 fun _=>.slice none 0 0) (by ((simp only [go_sem,ST])); all_goals (and_intros <;> rfl)) ?_
 refine R.ada tl.length 37 rfl (fun b h=>h) (GI rfl rfl rfl rfl) rfl ?_
 intro w1 G1 rb mp N H A hrb hmp
 refine R.UD (e:=37) (ST tl facts S) (DT facts S) (fun k _=>k≤S.length) (fun k=>S.length - k) 0 (by omega) N H A (fun i h=>hrb i (h 0 _)) (fun r h=>hmp r (h 0 _)) rfl rfl ?_
 clear H A N hrb hmp w1 G1 rb mp
 intro k hs w1 G1 rb mp hk N H A hrb hmp Q hnext OQ
 unfold ST
 by_cases hlt:k<S.length
 ·have f1:decide ((k:Int)<(S.length:Int))=true:=by simp; omega
  by_cases hin:0≤S[k]∧S[k].toNat<facts.length
  ·obtain ⟨hq0,hq⟩:=hin
   have hcast:((S[k].toNat:Nat):Int)=S[k]:=anJ hq0
   generalize S[k].toNat=q at hq hcast
   obtain ⟨ht0,hth,_⟩:=hf.2 _ (acn hq)
   have htc:((facts[q].table.toNat:Nat):Int)=facts[q].table:=anJ ht0
   generalize facts[q].table.toNat=j at hth htc
   have hD:=aec hlt hcast.symm hq htc.symm
   have hDl:=ah9 facts S k j
   have hrl:=hr _ (acn hq)
   have g1:decide ((q:Int)<0)=false:=by simp
   have g2:decide ((q:Int)≥(facts.length:Int))=false:=by simp; omega
   have g3:decide ((j:Int)≥0)=true:=by simp
   have g4:decide ((j:Int)<(tl.length:Int))=true:=by simp; omega
   have hln:((aeI tl.length).map fun t=>PD.raw (hs t)).length=tl.length:=by simp
   have hat:((aeI tl.length).map fun t=>PD.raw (hs t)).getD j (.aj []) = .raw (hs j):=by simp [hth]
   have hsr:=fun v=>Zy (n:=tl.length) hs v hth
   have hst:∀ v:Value,spl (.raw (hs j)) 0 (.raw v) = .raw v:=fun _=>rfl
   apply ak; simp only [go_sem,↓reduceIte,f1,getD_map,hlt,← hcast,hq,← htc,g1,g2,g3,g4,oI,tC,tH,hln,apr]
   repeat refine ⟨by omega,?_⟩
   refine R.aea 0 1 [13] 13 80 mixed (by decide +kernel) (by decide +kernel) (by decide +kernel) rfl ?_
   intro post' hpost
   simp only [SY,List.mapIdx_cons,List.mapIdx_nil,List.take_succ_cons,List.take_zero,arh,aqD,arx,List.contains_nil,Nat.reduceAdd,Nat.reduceBEq,atb,akX,akS,afi,asa]
   simp only [go_sem,oI,tC,tH,getD_map,hq,hat,hln]
   repeat refine ⟨by omega,?_⟩
   refine RY.kW (NW facts[q].row hrl) rfl rfl (.cons (.pd _) (.nil)) ?_
   (refine bg 80 _ _ ?_; simp only [go_sem,oI,tC,tH])
   repeat refine ⟨by omega,?_⟩
   refine R.F9 (j:=j) rfl N H A rfl (GI rfl rfl rfl rfl) rfl rfl rfl (by (simp only [go_sem])) hth rfl rfl rfl (gX lG) hi1 hz hsz hby rfl (by unfold maxLen; omega) (by omega) ?_
   intro w2 G2 kY kZ v' N2 H2 A2 zx D9
   apply ak; simp only [go_sem,↓reduceIte,oI,tC,tH,hat,hln]
   repeat refine ⟨by omega,?_⟩
   rw [hst,hsr]
   refine hpost _ _ _ _ _ ?_
   apply ak; simp only [go_sem,↓reduceIte,oI,tC,tH,wrapN (k:=k) (by omega)]
   refine R.to (ST tl facts S (k+1) (oh hs j v')) (by ((simp only [go_sem,ST])); all_goals (and_intros <;> rfl)) (hnext (k+1) _ _ _ _ _ (by omega) (by omega) N2 (by rw [hD]; exact H2) A2 (fun i h=>zx i ?_) (fun r h=>D9 r ?_))
   ·exact h 0 hs
   ·exact h 0 hs
  ·have hD:=aeb hlt hin
   have hg:(if decide (S[k]<0)=true then true else decide (S[k]≥(facts.length:Int)))=true:=by
    by_cases c:S[k]<0
    ·simp [c]
    ·simp [c]; omega
   by_cases c:S[k]<0
   ·have g1:decide (S[k]<0)=true:=by simpa using c
    apply ak; simp only [go_sem,↓reduceIte,f1,getD_map,hlt,g1,oI,tC,tH,wrapN (k:=k) (by omega)]
    repeat refine ⟨by omega,?_⟩
    refine R.to (ST tl facts S (k+1) hs) (by ((simp only [go_sem,ST])); all_goals (and_intros <;> rfl)) (hnext (k+1) _ _ _ _ _ (by omega) (by omega) N (by rw [hD]; exact H) A hrb hmp)
   ·have g1:decide (S[k]<0)=false:=by simp; omega
    have g2:decide (S[k]≥(facts.length:Int))=true:=by simp; omega
    apply ak; simp only [go_sem,↓reduceIte,f1,getD_map,hlt,g1,g2,oI,tC,tH,wrapN (k:=k) (by omega)]
    repeat refine ⟨by omega,?_⟩
    refine R.to (ST tl facts S (k+1) hs) (by ((simp only [go_sem,ST])); all_goals (and_intros <;> rfl)) (hnext (k+1) _ _ _ _ _ (by omega) (by omega) N (by rw [hD]; exact H) A hrb hmp)
 ·have f1:decide ((k:Int)<(S.length:Int))=false:=by simp; omega
  have hke:k=S.length:=by omega
  subst hke
  clear hk
  refine kD 6 _ _ ?_
  simp only [go_sem,↓reduceIte,f1,oI,tC,tH]
  refine R.La rfl fun a' w' E' g'=>OQ 0 _ rfl _ _ _ _ _ ?_ a' w' E' g'
  refine R.ah8 (i:=7) rfl rfl rfl N H A (GI rfl rfl rfl rfl) rfl rfl ?_
  rw [← abT]
  apply ak; simp only [go_sem,↓reduceIte,oI,tC,tH,Gf]
  refine R.fU (fun (k:Nat) s=>St.lp [6,7,60] [(61,.pd (I k))] [3] [] [] [(7,⟨47,1,(TS facts S tl.length k).map bI⟩)] s) (fun (k:Nat)=>k≤tl.length) (fun (k:Nat)=>tl.length - k) (0) (by omega) ?_
  rintro k hk
  by_cases hlt:k<tl.length
  ·have f1:decide ((k:Int)<(tl.length:Int))=true:=by simp; omega
   have hat:((TS facts S tl.length k).map bI).getD k (.aj [])=bI (oJ facts S k):=by
    rw [getD_map _ _ _ (by rw [Gf]; exact hlt)]; congr 2; exact akA hlt
   have hset:=aia (facts:=facts) (S:=S) hlt
   have Jg:spl (bI (oJ facts S k)) 0 (bI (vN facts S k))=bI (vN facts S k):=rfl
   have h76:aS abZ 76 [.pd (bI (oJ facts S k))] [bI (vN facts S k)]:=KD (oJ facts S k) (by
    unfold oJ
    have:=aor (rowAt facts k) S
    omega) fun r hr'=>by
    obtain ⟨f,hf',rfl⟩:=WO hr'
    have:=hr f hf'; omega
   apply ak; simp only [go_sem,↓reduceIte,f1,hat,Gf]
   repeat refine ⟨by omega,?_⟩
   refine R.kW (h76) rfl rfl (.cons (.pd _) (.nil)) ?_
   apply ak; simp only [go_sem,↓reduceIte,hat,Gf,wrapN (k:=k) (by omega)]
   repeat refine ⟨by omega,?_⟩
   rw [Jg,hset]
   refine R.fE (k+1) (by omega)
  ·have f1:decide ((k:Int)<(tl.length:Int))=false:=by simp; omega
   have hke:k=tl.length:=by omega
   subst hke
   apply ak; simp only [go_sem,↓reduceIte,f1]
   refine R.bZ 7 rfl rfl ?_
   simp only [go_sem]
   refine R.rW ?_
   rw [aed]; rfl
theorem akB:aH abZ 19:=fun _ _=>by kernel_rfl
theorem akC:aH abZ 64:=fun _ _=>by kernel_rfl
theorem WQ (a:List V):aF abZ 64 [.pd (vals a),.pd (vals a)] [B true]:=by
 refine aF.mk Tryz.func64 rfl akC (by simp [Tryz.ntmps64]) fun w G=>?_
 refine R.bound 0 (sz:=3) (ds:=a.map val) rfl fun hl=>?_
 have hl:a.length≤9223372036854775807:=by simpa [maxLen] using hl
 have e0:((a.length:Int) != (a.length:Int))=false:=by simp
 apply ak; simp only [go_sem,↓reduceIte,e0]
 refine R.fU (fun (k:Nat) s=>St.lp [0,1] [(5,.pd (I k))] [] [] [] [] s) (fun (k:Nat)=>k≤a.length) (fun (k:Nat)=>a.length - k) (0) (by omega) ?_
 rintro k hk
 by_cases hlt:k<a.length
 ·have e1:decide ((k:Int)<(a.length:Int))=true:=by simp; omega
  have n1:(a[k].kind == a[k].kind)=true:=by simp
  have n2:(a[k].n == a[k].n)=true:=by simp
  have n3:(a[k].text == a[k].text)=true:=by rw [beq_toListBytes]; simp
  apply ak; simp only [go_sem,↓reduceIte,e1]
  refine R.dB 8 80 mixed (by decide +kernel) ?_; simp only [go_sem,getD_map,hlt,n1,n2,n3]
  repeat refine ⟨by omega,?_⟩
  apply ak; simp only [go_sem,↓reduceIte,n3,wrapN (k:=k) (by omega)]
  refine R.fE (k+1) (by omega)
 ·have e1:decide ((k:Int)<(a.length:Int))=false:=by simp; omega
  apply ak; simp only [go_sem,↓reduceIte,e1]
  refine R.rC ?_
  rfl
theorem S9 (l:List (List V)):aF abZ 19 [.pd (bI l),.pd (bI l)] [B true]:=by
 refine aF.mk Tryz.func19 rfl akB (by simp [Tryz.ntmps19]) fun w G=>?_
 refine R.bound 0 (sz:=1) (ds:=l.map vals) rfl fun hl=>?_
 have hl:l.length≤9223372036854775807:=by simpa [maxLen] using hl
 have e0:((l.length:Int) != (l.length:Int))=false:=by simp
 apply ak; simp only [go_sem,↓reduceIte,e0]
 refine R.fU (fun (k:Nat) s=>St.lp [0,1] [(5,.pd (I k))] [] [] [] [] s) (fun (k:Nat)=>k≤l.length) (fun (k:Nat)=>l.length - k) (0) (by omega) ?_
 rintro k hk
 by_cases hlt:k<l.length
 ·have e1:decide ((k:Int)<(l.length:Int))=true:=by simp; omega
  apply ak; simp only [go_sem,↓reduceIte,e1]
  refine R.dB 8 80 mixed (by decide +kernel) ?_; simp only [go_sem,getD_map,hlt]
  repeat refine ⟨by omega,?_⟩
  refine R.kC (WQ l[k]) rfl rfl (.cons (.pd _) (.cons (.pd _) (.nil))) ?_
  apply ak; simp only [go_sem,↓reduceIte,wrapN (k:=k) (by omega)]
  refine R.fE (k+1) (by omega)
 ·have e1:decide ((k:Int)<(l.length:Int))=false:=by simp; omega
  apply ak; simp only [go_sem,↓reduceIte,e1]
  refine R.rC ?_
  rfl
theorem ZA (l:List Attr) (n:ByteArray):kG l n=match ji l n with | some k=>(k:Int) | none=>-1:=by
 unfold kG jv ji
 congr 1
 have:(fun t:Attr=>eqS t.name n)=fun t=>decide (t.name=n):=by
  funext t
  rw [anV,Gy,aon]
 rw [this]
theorem aic:aH abZ 128:=fun _ _=>by kernel_rfl
theorem Ea {s:St} {n0 r:Nat} {a:jI} (h1:s.vars=[]) (h2:s.maps=[(r,.map a)]) (h3:s.gs=[]) (h4:KJ s.slots=true) (hr:n0≤r):s.Bare n0 where
 vars:=h1
 maps:=fun q m h=>by
  rw [St.map,h2] at h
  simp only [lk] at h
  split at h
  ·rename_i e
   subst e
   exact ⟨hr,a,by simpa using h.symm⟩
  ·cases h
 gs:=h3
 box:=(GI (s:=⟨s.n,s.slots,[],[],[],[]⟩) (n0:=0) rfl rfl rfl h4).box
theorem WR (la:List Attr) {lb:List Attr} {k:Nat} (h:k<lb.length):gU la (lb.zipIdx.take (k+1))=gU la (lb.zipIdx.take k)++(match ji la lb[k].name with | some j=>[(j:Int)] | none=>[]) ∧
  dQ la (lb.zipIdx.take (k+1))=dQ la (lb.zipIdx.take k)++(match ji la lb[k].name with | some _=>[(k:Int)] | none=>[]) ∧
  jL la (lb.zipIdx.take (k+1))=jL la (lb.zipIdx.take k)++(match ji la lb[k].name with | some _=>[] | none=>[(k:Int)]):=by
 have hz:k<lb.zipIdx.length:=by simpa using h
 have e:lb.zipIdx.take (k+1)=lb.zipIdx.take k++[(lb[k],k)]:=by
  rw [ab3 hz]; simp
 rw [e]
 simp only [gU,dQ,jL,aqR]
 cases hf:ji la lb[k].name with
 | none=>simp [zu,hf]
 | some j=>simp [zu,hf]
theorem RN (la:List Attr) (l:List (Attr × Nat)):(gU la l).length≤l.length∧(dQ la l).length≤l.length∧(jL la l).length≤l.length:=⟨aor _ _,aor _ _,aor _ _⟩
theorem UG {row:List V} {cols:List Int} (hv:dP row) (hr:row.length≤100000000) (hl:cols.length≤100000000) (hc:∀ c∈cols,0≤c∧c.toNat<row.length):aS abZ 199 [.pd (vals row),.pd (ints cols)] (Aq (dw row cols)):=
 key_ok row cols (fun v hv'=>by
  have:=Nu (hv v hv')
  have e:(bytes (bG v)).length=(bG v).size:=Array.length_toList
  omega) (by omega) (by omega) hc
def SJ (m1 m2:List (List V)) (L Rr Re:List Int) (r k:Nat) (hs:Nat→Value):St:=⟨134,[(2,.pd (jl [m1,m2])),(7,.pd (ints L)),(8,.pd (ints Rr)),(9,.pd (ints Re)),(13,.pd (F 199)),(14,.pd (mref r)),(65,.pd (bI m2)),(66,.pd (I m2.length)),(67,.pd (I k))],[],[],[(r,.map (iD (keysL (fun y=>dw y Rr) (m2.take k)) fun t=>.raw (hs t)))],[]⟩
def SK (m1 m2:List (List V)) (L:List Int) (r:Nat) (M:jI):St:=⟨134,[(2,.pd (jl [m1,m2])),(7,.pd (ints L)),(13,.pd (F 199)),(14,.pd (mref r))],[],[],[(r,.map M)],[]⟩
theorem amm {T G:Prop} (f:T→G) (x:T):G:=f x
theorem Tc (x:PD) (p q0 q1:Plan) (hks:p.kids=[q0,q1]) (m1 m2:List (List V)) (h1:m1.length≤1000) (h2:m2.length≤1000) (hv1:∀ r∈m1,dP r∧r.length=q0.attrs.length) (hv2:∀ r∈m2,dP r∧r.length=q1.attrs.length)
  (hjl:(m1.flatMap fun x=>m2.filterMap fun y=>jk q0.attrs q1.attrs x y).length≤1000) (a0:q0.attrs.length≤100000000) (a1:q1.attrs.length≤100000000):
  aS abZ 128 [.ref x 0,.pd (plan p),.pd (jl [m1,m2])] [bI (m1.flatMap fun x=>m2.filterMap fun y=>jk q0.attrs q1.attrs x y)]:=by
 have hjr:(m1.flatMap fun x=>m2.filterMap fun y=>jk q0.attrs q1.attrs x y)=m1.flatMap (Me q0.attrs q1.attrs m2):=Rw hv1 hv2
 rw [hjr] at hjl ⊢
 clear hjr
 generalize hla:q0.attrs=la at *
 generalize hlb:q1.attrs=lb at *
 have hpl:plan p = .aj [I p.kind,I p.table,.list 8 [gQ q0,gQ q1],mJ p.tests,ints p.cols,I p.col,I p.agg,attrs p.attrs]:=by
  rw [aN p,hks]
  simp only [gQ,plans,ab9,acH,aN q0,aN q1]
 rw [hpl]
 simp only [gQ,hla,hlb]
 clear hpl hks
 generalize hpq:(PD.aj [I q0.kind,I q0.table,plans q0.kids,mJ q0.tests,ints q0.cols,I q0.col,I q0.agg,attrs la])=t0
 have ht0:t0 = .aj [I q0.kind,I q0.table,plans q0.kids,mJ q0.tests,ints q0.cols,I q0.col,I q0.agg,attrs la]:=hpq.symm
 generalize hpr:(PD.aj [I q1.kind,I q1.table,plans q1.kids,mJ q1.tests,ints q1.cols,I q1.col,I q1.agg,attrs lb])=t1
 have ht1:t1 = .aj [I q1.kind,I q1.table,plans q1.kids,mJ q1.tests,ints q1.cols,I q1.col,I q1.agg,attrs lb]:=hpr.symm
 clear hpq hpr
 refine aS.mk Tryz.func128 rfl aic (by simp [Tryz.ntmps128]) fun w G=>?_
 apply ev8; simp only [go_sem,Int.toNat_one,ht1]
 repeat refine ⟨by omega,?_⟩
 refine R.jT 7 7 3 1 (by (simp only [go_sem])) rfl rfl ?_
 simp only [go_sem]
 refine R.jT 8 8 3 1 (by (simp only [go_sem])) rfl rfl ?_
 simp only [go_sem]
 refine R.jT 9 9 3 1 (by (simp only [go_sem])) rfl rfl ?_
 simp only [go_sem]
 have hz0:(gU la (lb.zipIdx.take 0)).map I=[]∧(dQ la (lb.zipIdx.take 0)).map I=[]∧(jL la (lb.zipIdx.take 0)).map I=[]:=⟨rfl,rfl,rfl⟩
 refine R.fU (fun (k:Nat) s=>St.lp [2,4,6,32,33] [(34,.pd (I k)),(7,.own 7),(8,.own 8),(9,.own 9)] [4] [] [] [(7,⟨3,1,(gU la (lb.zipIdx.take k)).map I⟩),(8,⟨3,1,(dQ la (lb.zipIdx.take k)).map I⟩),(9,⟨3,1,(jL la (lb.zipIdx.take k)).map I⟩)] s) (fun (k:Nat)=>k≤lb.length) (fun (k:Nat)=>lb.length - k) (0) (by omega) ?_
 rintro k hk
 by_cases hlt:k<lb.length
 ·have f1:decide ((k:Int)<(lb.length:Int))=true:=by simp; omega
  obtain ⟨n1,n2,n3⟩:=WR la hlt
  obtain ⟨l1,l2,l3⟩:=RN la (lb.zipIdx.take k)
  rw [akY,as7] at l1 l2 l3
  have hcf:=ZA la lb[k].name
  apply ak; simp only [go_sem,↓reduceIte,f1,getD_map,hlt]
  repeat refine ⟨by omega,?_⟩
  refine R.dB 7 80 mixed (by decide +kernel) ?_; simp only [go_sem,Int.toNat_zero,ht0]
  repeat refine ⟨by omega,?_⟩
  refine aNG ?_
  refine R.kC (E8 la lb[k].name) rfl rfl (.cons (.pd _) (.cons (.pd _) (.nil))) ?_
  refine aNG ?_
  cases hf:ji la lb[k].name with
  | some j=>
   rw [hf] at hcf n1 n2 n3
   simp only at hcf n1 n2 n3
   rw [amG] at n3
   have f2:decide ((j:Int)≥0)=true:=by simp
   rw [hcf]
   apply ak; simp only [go_sem,↓reduceIte,f2]
   refine R.dL 1000000000 8 rfl rfl (by (simp only [go_sem])) rfl rfl rfl rfl sl27 rfl MR (by simp) (congrArg (aii aeK) MV) rfl MS (by simp; omega) (by decide) (by decide) ?_
   refine aNG ?_
   refine R.dL 1000000000 8 rfl rfl (by (simp only [go_sem])) rfl rfl rfl rfl sl27 rfl MR (by simp) (congrArg (aii aeK) MV) rfl MS (by simp; omega) (by decide) (by decide) ?_
   apply ak; simp only [go_sem,↓reduceIte,wrapN (k:=k) (by omega)]
   refine R.fE (k+1) (by omega) (l:=by (simp only [go_sem,n1,n2,n3,aeh]); all_goals (and_intros <;> rfl))
  | none=>
   rw [hf] at hcf n1 n2 n3
   simp only at hcf n1 n2 n3
   rw [amG] at n1 n2
   have f2:decide ((-1:Int)≥0)=false:=by decide
   rw [hcf]
   apply ak; simp only [go_sem,↓reduceIte,f2]
   refine R.dL 1000000000 8 rfl rfl (by (simp only [go_sem])) rfl rfl rfl rfl sl27 rfl MR (by simp) (congrArg (aii aeK) MV) rfl MS (by simp; omega) (by decide) (by decide) ?_
   apply ak; simp only [go_sem,↓reduceIte,wrapN (k:=k) (by omega)]
   refine R.fE (k+1) (by omega) (l:=by (simp only [go_sem,n1,n2,n3,aeh]); all_goals (and_intros <;> rfl))
 ·have f1:decide ((k:Int)<(lb.length:Int))=false:=by simp; omega
  have hke:lb.zipIdx.take k=lb.zipIdx:=acw (by simp; omega)
  apply ak; simp only [go_sem,↓reduceIte,f1,hke]
  refine R.bZ 7 rfl rfl ?_
  simp only [go_sem]
  refine R.bZ 8 rfl rfl ?_
  simp only [go_sem]
  refine R.bZ 9 rfl rfl ?_
  simp only [go_sem]
  obtain ⟨l1,l2,l3⟩:=RN la lb.zipIdx
  rw [as7] at l1 l2 l3
  have cl:=Uz (la:=la) (l:=lb.zipIdx)
  have cr:=D5 (la:=la) (lb:=lb)
  have ce:=ad3 (la:=la) (lb:=lb)
  have hout:∀ x,Me la lb m2 x=match dw x (gU la lb.zipIdx) with | some k=>(moreL (fun y=>dw y (dQ la lb.zipIdx)) (fun y=>aQ y (jL la lb.zipIdx)) m2 k).map (x ++ ·) | none=>[]:=fun x=>rfl
  generalize gU la lb.zipIdx=L at *
  generalize dQ la lb.zipIdx=Rr at *
  generalize jL la lb.zipIdx=Re at *
  generalize Me la lb m2=out at *
  clear hz0 f1 hke
  refine aNG ?_
  refine R.makeMap rfl rfl rfl (by (simp only [go_sem])) fun r hr hr0=>?_
  clear hr0
  apply ak; simp only [go_sem,↓reduceIte,Int.toNat_one]
  repeat refine ⟨by omega,?_⟩
  refine R.to (SJ m1 m2 L Rr Re r 0 fun _=>.slice none 0 0) (by ((simp only [go_sem,SJ])); all_goals (and_intros <;> rfl)) ?_
  refine R.ada m2.length 37 rfl (fun b h=>h) (Ea rfl rfl rfl rfl hr) rfl ?_
  intro w1 G1 rb mp N H A hrb hmp
  have hkk:∀ k (h:k<m2.length),aS abZ 199 [.pd (vals m2[k]),.pd (ints Rr)] (Aq (dw m2[k] Rr)):=fun k h=>by
   have hv:=hv2 _ (acn h)
   exact UG hv.1 (by omega) (by omega) fun c hc=>by rw [hv.2]; exact cr c hc
  have hpk:∀ k (h:k<m2.length),aS abZ 198 [.pd (vals m2[k]),.pd (ints Re)] [vals (aQ m2[k] Re),B true]:=fun k h=>by
   have hv:=hv2 _ (acn h)
   have:=KC m2[k] Re (by omega) (by omega)
   rwa [Bh fun c hc=>by rw [hv.2]; exact ce c hc] at this
  obtain ⟨i0,hi1,hz,hsz,hby⟩:=info_parts UF
  refine R.UD (e:=37) (SJ m1 m2 L Rr Re r) (fun k=>headD (fun y=>dw y Rr) (fun y=>aQ y Re) (m2.take k)) (fun k hs=>k≤m2.length∧∀ t,(keysL (fun y=>dw y Rr) (m2.take k)).length≤t→hs t = .slice none 0 0) (fun k=>m2.length - k) 0 ⟨by omega,fun _ _=>rfl⟩ N H A (fun i h=>hrb i (h 0 _)) (fun q h=>hmp q (h 0 _)) rfl rfl ?_
  clear H A N hrb hmp w1 G1 rb mp
  rintro k hs w1 G1 rb mp ⟨hk,hnil⟩ N H A hrb hmp Q hnext OQ
  have hmr:mp r:=hmp r fun x h=>by simp [kX,SJ,St.map,lk]
  unfold SJ
  by_cases hlt:k<m2.length
  ·have f1:decide ((k:Int)<(m2.length:Int))=true:=by simp; omega
   have htk:m2.take (k+1)=m2.take k++[m2[k]]:=ab3 hlt
   apply ak; simp only [go_sem,↓reduceIte,f1,getD_map,hlt,oI,tC,tH]
   repeat refine ⟨by omega,?_⟩
   refine R.y rfl (ah (by (simp only [go_sem,oI]))) (.pG 72 199 _ _ _ _ _ rfl rfl rfl (.cons (.pd _) (.cons (.pd _) .nil)) (hkk k hlt) (by simp [plain,PD.plain])) ?_
   cases hkey:dw m2[k] Rr with
   | none=>
    have hD:=WL (l:=m2.take k) (y:=m2[k]) (key:=fun y=>dw y Rr) (more:=fun y=>aQ y Re) hkey
    have hK:=KG (l:=m2.take k) (y:=m2[k]) (key:=fun y=>dw y Rr) hkey
    apply ak; simp only [go_sem,↓reduceIte,Aq,oI,tC,tH,wrapN (k:=k) (by omega)]
    refine R.to (SJ m1 m2 L Rr Re r (k+1) hs) (by ((simp only [go_sem,SJ,htk,hK])); all_goals (and_intros <;> rfl)) (hnext (k+1) _ _ _ _ _ ⟨by omega,by rw [htk,hK]; exact hnil⟩ (by omega) N (by rw [htk,hD]; exact H) A hrb hmp)
   | some kk=>
    have hkl:=N9 (key:=fun y=>dw y Rr) (m2.take k)
    rw [akY] at hkl
    have hHl:∀ t,(headD (fun y=>dw y Rr) (fun y=>aQ y Re) (m2.take k) t).length≤m2.length:=fun t=>by
     have:=Zt (key:=fun y=>dw y Rr) (more:=fun y=>aQ y Re) (m2.take k) t
     rw [akY] at this; omega
    apply ak; simp only [go_sem,↓reduceIte,Aq,oI,tC,tH]
    refine R.kW (hpk k hlt) rfl rfl (.cons (.pd _) (.cons (.pd _) (.nil))) ?_
    apply ak; simp only [go_sem,↓reduceIte,oI,tC,tH]
    have hnd:=Bj (key:=fun y=>dw y Rr) (m2.take k)
    by_cases hm:kk∈keysL (fun y=>dw y Rr) (m2.take k)
    ·obtain ⟨j,hj,hkj⟩:=aeF hm
     have hD:=Zv (l:=m2.take k) (y:=m2[k]) (key:=fun y=>dw y Rr) (more:=fun y=>aQ y Re) hkey hj hkj
     have hK:=N7 (l:=m2.take k) (y:=m2[k]) (key:=fun y=>dw y Rr) hkey hm
     have hlook:=RG (d:=fun t=>PD.raw (hs t)) hnd hj
     rw [hkj] at hlook
     refine R.vU (m:=iD _ _) rfl rfl (ah (by (simp only [go_sem,oI]))) rfl (by simp [St.map,lk]) rfl Dv hlook ?_
     apply ak; simp only [go_sem,↓reduceIte,oI,tC,tH]
     refine R.F9 (j:=j) rfl N H A rfl (Ea rfl rfl rfl rfl hr) rfl rfl rfl (by (simp only [go_sem])) (by omega) rfl rfl rfl (gX lG) hi1 hz hsz hby rfl (by have:=hHl j; unfold maxLen; omega) (by have:=hHl j; omega) ?_
     intro w2 G2 kY kZ v' N2 H2 A2 zx D9
     have abU:kZ r:=D9 r (by simp [kX,St.map,lk])
     apply ak; simp only [go_sem,↓reduceIte,oI,tC,tH]
     refine R.Jv (i:=j) (m:=iD (keysL (fun y=>dw y Rr) (m2.take k)) fun t=>.raw (hs t)) (.inl rfl) rfl (ah (by (simp only [go_sem,oI]))) rfl (by simp [St.map,lk]) rfl rfl Dv rfl (UA _ _) (.inr (.inr abU)) (by rw [abO]; exact hj) (by rw [ad8 hj,hkj]) ?_
     have hset:=abQ (d:=fun t=>PD.raw (hs t)) (x:=.raw v') hj
     rw [hkj] at hset
     rw [hset]
     apply ak; simp only [go_sem,↓reduceIte,oI,tC,tH,wrapN (k:=k) (by omega)]
     refine R.to (SJ m1 m2 L Rr Re r (k+1) (oh hs j v')) (by ((simp only [go_sem,SJ,htk,hK,UC])); all_goals (and_intros <;> rfl)) (hnext (k+1) _ _ _ _ _ ⟨by omega,fun t ht=>?_⟩ (by omega) N2 (by rw [htk,hD]; exact H2) A2 (fun i h=>zx i ?_) (fun q h=>D9 q ?_))
     ·rw [htk,hK] at ht
      rw [eX (by omega)]; exact hnil t ht
     ·exact h k hs
     ·exact h k hs
    ·have hD:=Zw (l:=m2.take k) (y:=m2[k]) (key:=fun y=>dw y Rr) (more:=fun y=>aQ y Re) hkey hm
     have hK:=N8 (l:=m2.take k) (y:=m2[k]) (key:=fun y=>dw y Rr) hkey hm
     have hlook:=Ob (d:=fun t=>PD.raw (hs t)) hm
     refine R.vU (m:=iD _ _) rfl rfl (ah (by (simp only [go_sem,oI]))) rfl (by simp [St.map,lk]) rfl Dv hlook ?_
     apply ak; simp only [go_sem,↓reduceIte,oI,tC,tH]
     refine R.F9 (j:=(keysL (fun y=>dw y Rr) (m2.take k)).length) rfl N H A rfl (Ea rfl rfl rfl rfl hr) rfl rfl rfl (by (simp only [go_sem])) (by omega) (by rw [hnil _ (ael _)]; rfl) rfl rfl (gX lG) hi1 hz hsz hby rfl (by have:=hHl (keysL (fun y=>dw y Rr) (m2.take k)).length; unfold maxLen; omega) (by have:=hHl (keysL (fun y=>dw y Rr) (m2.take k)).length; omega) ?_
     intro w2 G2 kY kZ v' N2 H2 A2 zx D9
     have abU:kZ r:=D9 r (by simp [kX,St.map,lk])
     apply ak; simp only [go_sem,↓reduceIte,oI,tC,tH]
     refine R.jc (m:=iD (keysL (fun y=>dw y Rr) (m2.take k)) fun t=>.raw (hs t)) (.inl rfl) rfl (ah (by (simp only [go_sem,oI]))) rfl (by simp [St.map,lk]) rfl rfl Dv rfl (abP _ hm) (.inr (.inr abU)) ?_
     rw [abR]
     apply ak; simp only [go_sem,↓reduceIte,fB,dR.fB,oI,tC,tH,wrapN (k:=k) (by omega)]
     refine R.to (SJ m1 m2 L Rr Re r (k+1) (oh hs (keysL (fun y=>dw y Rr) (m2.take k)).length v')) (by ((simp only [go_sem,SJ,htk,hK,UC])); all_goals (and_intros <;> rfl)) (hnext (k+1) _ _ _ _ _ ⟨by omega,fun t ht=>?_⟩ (by omega) N2 (by rw [htk,hD]; exact H2) A2 (fun i h=>zx i ?_) (fun q h=>D9 q ?_))
     ·rw [htk,hK,adb] at ht
      simp only [aey,akO] at ht
      rw [eX (by omega)]; exact hnil t (by omega)
     ·exact h k hs
     ·exact h k hs
  ·have f1:decide ((k:Int)<(m2.length:Int))=false:=by simp; omega
   have hke:m2.take k=m2:=acw (by omega)
   rw [hke] at H ⊢
   refine kD 6 _ _ ?_
   simp only [go_sem,↓reduceIte,f1,oI,tC,tH]
   refine R.La rfl fun a' w' E' g'=>OQ 2 _ rfl _ _ _ _ _ ?_ a' w' E' g'
   refine R.ad9 (r:=r) (u:=(keysL (fun y=>dw y Rr) m2).length) (key:=fun t=>.string (str ((keysL (fun y=>dw y Rr) m2).getD t []))) (N9 m2) rfl rfl rfl N H A (Ea rfl rfl rfl rfl hr) rfl (by simp [St.map,lk,iD]) ?_
   clear H A N hrb hmp hnext OQ
   refine R.to (SK m1 m2 L r (iD (keysL (fun y=>dw y Rr) m2) fun t=>.list 1 (headD (fun y=>dw y Rr) (fun y=>aQ y Re) m2 t))) (by ((simp only [go_sem,SK,iD])); all_goals (and_intros <;> rfl)) ?_
   have hlk:∀ kk,lS abZ 47 .string (.string (str kk)) ((iD (keysL (fun y=>dw y Rr) m2) fun t=>.list 1 (headD (fun y=>dw y Rr) (fun y=>aQ y Re) m2 t)).map (·.1)) ((iD (keysL (fun y=>dw y Rr) m2) fun t=>.list 1 (headD (fun y=>dw y Rr) (fun y=>aQ y Re) m2 t)).map (·.2)) true (bI (moreL (fun y=>dw y Rr) (fun y=>aQ y Re) m2 kk)) ∨
     (moreL (fun y=>dw y Rr) (fun y=>aQ y Re) m2 kk=[]∧lS abZ 47 .string (.string (str kk)) ((iD (keysL (fun y=>dw y Rr) m2) fun t=>.list 1 (headD (fun y=>dw y Rr) (fun y=>aQ y Re) m2 t)).map (·.1)) ((iD (keysL (fun y=>dw y Rr) m2) fun t=>.list 1 (headD (fun y=>dw y Rr) (fun y=>aQ y Re) m2 t)).map (·.2)) false (.raw (.slice none 0 0))):=fun kk=>by
    by_cases hm:kk∈keysL (fun y=>dw y Rr) m2
    ·obtain ⟨j,hj,hkj⟩:=aeF hm
     have:=RG (d:=fun t=>.list 1 (headD (fun y=>dw y Rr) (fun y=>aQ y Re) m2 t)) (Bj m2) hj
     rw [hkj,qx hj,hkj] at this
     exact .inl this
    ·exact .inr ⟨KH hm,Ob hm⟩
   have hml:∀ kk,∀ x∈moreL (fun y=>dw y Rr) (fun y=>aQ y Re) m2 kk,x.length≤100000000:=fun kk x hx=>by
    obtain ⟨y,_,h⟩:=amJ.1 hx
    split at h
    ·cases h; simp [aQ]; omega
    ·cases h
   have hmn:∀ kk,(moreL (fun y=>dw y Rr) (fun y=>aQ y Re) m2 kk).length≤1000:=fun kk=>ahC (Oa m2 kk) h2
   generalize (iD (keysL (fun y=>dw y Rr) m2) fun t=>.list 1 (headD (fun y=>dw y Rr) (fun y=>aQ y Re) m2 t))=M at *
   generalize moreL (fun y=>dw y Rr) (fun y=>aQ y Re) m2=mo at *
   have hkx:∀ k (h:k<m1.length),aS abZ 199 [.pd (vals m1[k]),.pd (ints L)] (Aq (dw m1[k] L)):=fun k h=>by
    have hv:=hv1 _ (acn h)
    exact UG hv.1 (by omega) (by omega) fun c hc=>by rw [hv.2]; exact cl c hc
   clear hkk hpk hi1 hz hsz hby hnil hke f1 hk
   unfold SK
   apply ak; simp only [go_sem,↓reduceIte,Int.toNat_zero]
   repeat refine ⟨by omega,?_⟩
   refine R.jT 21 21 37 1 (by (simp only [go_sem])) rfl rfl ?_
   simp only [go_sem]
   have hz1:((m1.take 0).flatMap out).map vals=[]:=rfl
   refine R.fU (fun (i:Nat) s=>St.lp [6,7,13,14,96,97] [(98,.pd (I i)),(21,.own 21)] [4,11] [] [] [(21,⟨37,1,((m1.take i).flatMap out).map vals⟩)] s) (fun (i:Nat)=>i≤m1.length) (fun (i:Nat)=>m1.length - i) (0) (by omega) ?_
   rintro i hi
   by_cases hlt:i<m1.length
   ·have f1:decide ((i:Int)<(m1.length:Int))=true:=by simp; omega
    have hsn:(m1.take (i+1)).flatMap out=(m1.take i).flatMap out++out m1[i]:=by rw [ab3 hlt,ao2]; simp
    have hpl:((m1.take (i+1)).flatMap out).length≤1000:=by
     have e:m1=m1.take (i+1)++m1.drop (i+1):=(akR ..).symm
     have e:=congrArg (fun l=>(l.flatMap out).length) e
     simp only [ao2,adb] at e
     omega
    rw [hsn,adb] at hpl
    have ho:=hout m1[i]
    have hxl:=(hv1 _ (acn hlt)).2
    apply ak; simp only [go_sem,↓reduceIte,f1,getD_map,hlt]
    repeat refine ⟨by omega,?_⟩
    refine R.y rfl (ah (by (simp only [go_sem]))) (.pG 103 199 _ _ _ _ _ rfl rfl rfl (.cons (.pd _) (.cons (.pd _) .nil)) (hkx i hlt) (by simp [plain,PD.plain])) ?_
    cases hkey:dw m1[i] L with
    | none=>
     rw [hkey] at ho; simp only at ho
     rw [ho,amG] at hsn
     apply ak; simp only [go_sem,↓reduceIte,Aq,wrapN (k:=i) (by omega)]
     refine R.fE (i+1) (by omega) (l:=by (simp only [go_sem,hsn]); all_goals (and_intros <;> rfl))
    | some kk=>
     rw [hkey] at ho; simp only at ho
     apply ak; simp only [go_sem,↓reduceIte,Aq]
     have amn:=hml kk
     have anv:=hmn kk
     apply amm
     ·intro rest
      rcases hlk kk with h | ⟨e,h⟩
      ·refine R.vU (m:=M) rfl rfl (ah (by (simp only [go_sem]))) rfl (by simp [St.map,lk]) rfl Dv h ?_
       simp only [go_sem]
       exact rest
      ·refine R.vU (m:=M) rfl rfl (ah (by (simp only [go_sem]))) rfl (by simp [St.map,lk]) rfl Dv h ?_
       simp only [go_sem]
       refine R.up 113 (by (simp only [go_sem])) rfl (.nil 1) ?_
       simp only [go_sem]
       rw [e] at rest
       exact rest
     rw [ho] at hsn hpl
     generalize mo kk=ml at *
     have hz2:((m1.take i).flatMap out++(ml.take 0).map (m1[i] ++ ·)).map vals=((m1.take i).flatMap out).map vals:=by simp
     rw [aci] at hpl
     refine aNG ?_
     refine R.fU (fun (j:Nat) s=>St.lp [6,7,13,14,23,96,97,98,113,114] [(115,.pd (I j)),(21,.own 21)] [4,11] [] [] [(21,⟨37,1,((m1.take i).flatMap out++(ml.take j).map (m1[i] ++ ·)).map vals⟩)] s) (fun (j:Nat)=>j≤ml.length) (fun (j:Nat)=>ml.length - j) (0) (by omega) ?_ (by (simp only [go_sem,hz2]); all_goals (and_intros <;> rfl))
     rintro j hj
     by_cases hlj:j<ml.length
     ·have f2:decide ((j:Int)<(ml.length:Int))=true:=by simp; omega
      have hcl:=amn _ (acn hlj)
      have aie:=WI [m1[i],ml[j]] (by simp) (by simp; omega)
      have hfl:[m1[i],ml[j]].flatten=m1[i]++ml[j]:=by simp
      rw [hfl] at aie
      have hsj:((m1.take i).flatMap out++(ml.take (j+1)).map (m1[i] ++ ·)).map vals=((m1.take i).flatMap out++(ml.take j).map (m1[i] ++ ·)).map vals++[vals (m1[i]++ml[j])]:=by
       rw [ab3 hlj,aeh,aeh,aeh,aeh,afk]; rfl
      have hjn:(ml.take j).length≤ml.length:=by rw [akY]; omega
      apply ak; simp only [go_sem,↓reduceIte,f2,getD_map,hlj]
      repeat refine ⟨by omega,?_⟩
      refine R.kW (aie) rfl rfl (.cons (.pd _) (.nil)) ?_
      refine aNG ?_
      refine R.dL 1000000000000 24 rfl rfl (by (simp only [go_sem])) rfl rfl rfl rfl lG rfl qU (by simp) (congrArg (aii aeK) Dt) rfl EK (by simp only [aci,adb]; omega) (by decide) (by decide) ?_
      apply ak; simp only [go_sem,↓reduceIte,wrapN (k:=j) (by omega)]
      refine R.fE (j+1) (by omega) (l:=by (simp only [go_sem,hsj]); all_goals (and_intros <;> rfl))
     ·have f2:decide ((j:Int)<(ml.length:Int))=false:=by simp; omega
      have hke:ml.take j=ml:=acw (by omega)
      have f3:decide ((((m1.take i).flatMap out++ml.map (m1[i] ++ ·)).length:Int) > 400000)=false:=by rw [adb,aci]; apply amY; omega
      apply ak; simp only [go_sem,↓reduceIte,f2,hke,f3,wrapN (k:=i) (by omega)]
      refine R.fE (i+1) (by omega) (l:=by (simp only [go_sem,hsn]); all_goals (and_intros <;> rfl))
   ·have f1:decide ((i:Int)<(m1.length:Int))=false:=by simp; omega
    have hke:m1.take i=m1:=acw (by omega)
    apply ak; simp only [go_sem,↓reduceIte,f1,hke]
    refine R.bZ 21 rfl rfl ?_
    simp only [go_sem]
    refine R.rW ?_
    rfl
end Go.Proofs.Z
end
