/- A part of the proof. -/
import Derived.Test.YtjbhhddfaohdnaaGreatDoorPEv
import Derived.Maps.RangeRun
set_option linter.all false
set_option linter.deprecated false
open Array renaming getD→af6,size_push→ay6,eraseIdxIfInBounds→av6,length_toList→af7,getElem_toList→arj,replicate→afQ
open Go renaming wpList_plain→agp,run_underlying→af9
open Go.Instr renaming keyThatStays→axW,sameBits→aw0,mapUpdate→au5,extract→axt
open Go.Oper renaming wp→am7,upon_value→agz,upon_skip→auv,upon_enter→aqx
open Go.Result renaming andThen_ok→adR
open Go.Sem renaming run_bind→aex,run_pure→afN
open Go.Value renaming oneCell'→anj
open Go.World renaming cell?_of_block→aqb
open List renaming getElem?_eraseIdx→awQ,filter_eq_nil_iff→awS
open Option renaming getD_some→agd,map_none→arp,map_some→ajr,getD_none→aqE
section
namespace Go.au
section
variable {C:Cx} {s:St} {a:Act} {w w':World} {E:Env} {P:Program} {all:Array Oper} {l:List Oper} {k:List KI} {o:Oper}
def setB (w:World) (r:Nat) (o:Obj):World:={ w with heap:=w.heap.setIfInBounds r o }
theorem tX {r:Nat} {x:Obj} (hb:w.heap[r]? = some x) (o:Obj):(setB w r o).heap[r]? = some o:=by
 simp [setB,(ad6.1 hb).1]
theorem jq {r b:Nat} (h:b≠r) (o:Obj):(setB w r o).heap[b]? = w.heap[b]?:=by
 simp [setB,avo,aqm h]
theorem qV {G:Pub} {r:Nat} (o:Obj) (hG:∀ x,¬ G r x):Keeps w G (setB w r o) G:=
 ⟨fun _ _ h=>h,fun b x g=>aqb (a:=⟨b,x,none⟩) (jq (r:=r) (b:=b) (fun e=>hG x (e ▸ g)) o),fun b x g=>jq (r:=r) (b:=b) (fun e=>hG x (e ▸ g)) o⟩
theorem aF.adz (g:aF C s a w E) (ms:List (Nat × dX)) (hm:∀ b x,lk b ms=some x→gJ C w E.G b x):aF C { s with maps:=ms } a w E where
 kept:=g.kept
 bG:=g.bG
 defers:=g.defers
 size:=g.size
 g0:=g.g0
 g1:=g.g1
 tab:=g.tab
 gw:=g.gw
 slots:=g.slots
 vars:=g.vars
 rows:=g.rows
 maps:=hm
 boxes:=g.boxes
 vv:=g.vv
 rr:=g.rr
 vr:=g.vr
 bb:=g.bb
 bv:=g.bv
 br:=g.br
 dU:=g.dU
 dN:=g.dN
 dD:=g.dD
theorem aF.setB (g:aF C s a w E) {r:Nat} {x:Obj} (hb:w.heap[r]? = some x) (hx:∀ c e f,x≠.cells c e f) (hG:∀ n,¬ E.G r n) (hw:C.w0.heap.size≤r∨C.mu r) (o':Obj) (ms:List (Nat × dX))
  (hm:∀ b y,lk b ms=some y→gJ C (setB w r o') E.G b y):aF C { s with maps:=ms } a (setB w r o') E:=by
 have hk:Keeps w E.G (au.setB w r o') E.G:=qV o' hG
 have mn:∀ b cur e,Mine C E.G w b cur e→Mine C E.G (au.setB w r o') b cur e:=fun b cur e m=>
  ⟨m.1,m.2.1,(jq (fun e=>by subst e; have:=m.2.2; rw [hb] at this; cases this; exact hx _ _ _ rfl) o').trans m.2.2⟩
 exact {
  kept:=⟨g.kept.os,g.kept.tape,g.kept.output,by simpa [au.setB] using g.kept.size,fun b hb' hn=>(jq (fun e=>by subst e; rcases hw with h | h; omega; exact hn h) o').trans (g.kept.block b hb' hn),g.kept.drawn⟩
  defers:=g.defers
  size:=g.size
  g0:=g.g0
  g1:=g.g1
  tab:=g.tab.keep hk
  gw:=fun b n h=>by simpa [au.setB] using g.gw b n h
  slots:=fun t=>(g.slots t).keep (E':=E) hk rfl rfl
  bG:=fun t=>(g.bG t).keep (E':=E) hk rfl rfl
  vars:=fun t cs h=>by
   obtain ⟨cur,e,m,hs,hr⟩:=g.vars t cs h
   exact ⟨cur,e,mn _ _ _ m,hs,fun j hj=>⟨(hr j hj).1,(hr j hj).2.keep (E':=E) hk rfl rfl⟩⟩
  rows:=fun i r h=>by
   rcases g.rows i r h with h | ⟨b,cap,cur,h1,m,h2,h3,h4,h5,h6⟩
   ·exact .inl h
   ·exact .inr ⟨b,cap,cur,h1,mn _ _ _ m,h2,h3,h4,h5,fun k j hk' hj=>(h6 k j hk' hj).keep hk⟩
  maps:=hm
  boxes:=fun t cs h=>by
   obtain ⟨h1,⟨e,m⟩,h2⟩:=g.boxes t cs h
   exact ⟨h1,⟨e,mn _ _ _ m⟩,h2⟩
  vv:=g.vv
  rr:=g.rr
  vr:=g.vr
  bb:=g.bb
  bv:=g.bv
  br:=g.br
  dU:=g.dU
  dN:=g.dN
  dD:=g.dD }
theorem gJ.other {r:Nat} {x o':Obj} (hb:w.heap[r]? = some x) (hG:∀ n,¬ E.G r n) {b:Nat} {y:dX} (hbr:b≠r) (hit:∀ l c,y≠.it r l c) (h:gJ C w E.G b y):gJ C (setB w r o') E.G b y:=by
 cases y with
 | map m=>exact MapAt.keep (qV o' hG) h.1 (jq hbr o') h
 | it r' l' c=>
  obtain ⟨h0,since,last,clock,seen,es,h1,h2,h3⟩:=h
  exact ⟨h0,since,last,clock,seen,es,(jq hbr o').trans h1,(jq (fun e=>hit l' c (by rw [e])) o').trans h2,h3⟩
 | gone=>
  obtain ⟨h0,x,h1,h2⟩:=h
  exact ⟨by simpa [au.setB] using h0,x,(jq hbr o').trans h1,h2⟩
theorem MapAt.keys {G:Pub} {r clock:Nat} {es:Array MapEntry} {m:jW} (hs:es.size=m.length) (h:∀ i,i<m.length→(es.getD i default).key=(m.getD i (undef,.ak [])).1):es.toList.map (·.key)=m.map (·.1):=by
 apply auB
 intro i
 by_cases c:i<m.length
 ·have c2:i<es.size:=by omega
  have:=h i c
  simp only [af6,c2,arQ,arf,aax,af4 c,agd] at this
  simp [c2,c,this]
 ·rw [ao6 (by simp; omega),ao6 (by simp; omega)]
theorem R.makeMap {t:TypeId} {d:Nat} (ho:o.op = .makeMap t none) (hg:o.guard=none) (hd:o.dst=some d) (hn:d<s.n)
  (next:∀ r,C.w0.heap.size≤r→s.map r=none→R C (.ops all l::k) (St.set { s with maps:=(r,.map [])::s.maps } d (.pd (.raw (.map (some r)))))):R C (.ops all (o::l)::k) s:=by
 intro a w E g
 refine agp hg fun K hK=>?_
 unfold am7 execOp
 simp only [ho,arp,aex,Instr.makeMap,run_newObj,adR,afN,agz]
 have hb:=dQ w (.map #[] 0)
 have g1:=g.grow (w':=w.alloc (.map #[] 0)) hb E.G (fun _ _ h=>h) (fun _ _ h=>.inl h)
 have hnone:s.map w.heap.size=none:=by
  cases h:s.map w.heap.size with
  | none=>rfl
  | some x=>have:=(g.maps _ _ h).lt; omega
 have g2:=g1.adz ((w.heap.size,.map [])::s.maps) (fun b x h=>by
  simp only [lk] at h
  split at h
  ·rename_i e; cases h; subst e
   refine ⟨fun n hn=>?_,#[],0,heap_alloc_new w _,rfl,fun i hi=>by simp at hi,fun i j _ hj=>by simp at hj,fun i hi=>by simp at hi,by simp⟩
   have:=g.gw _ _ hn; omega
  ·exact g1.maps b x h)
 rw [hd]
 exact hK _ _ (next _ g.kept.size hnone _ _ _ (g2.put hn (.raw _ rfl) (by simp)))
theorem R.wX {t kt e:TypeId} {td:TypeDesc} {x kx:Operand} {ok:Bool} {r:Nat} {m:jW} {key:Value} {d:PD} {fd:Bool} (ho:o.op = .lookup t x kx ok) (hg:o.guard=none) (hd:bP s o) (hx:aU s x = .pd (.raw (.map (some r)))) (hm:s.map r=some (.map m))
  (hk:aU s kx = .pd (.raw key)) (ht:pF C.P t=some (kt,td,e)) (h:mJ C.P e td key (m.map (·.1)) (m.map (·.2)) fd d)
  (next:R C (.ops all l::k) (s.put o.dst (if ok then .tpl [d,.raw (.bool fd)] else .pd d))):R C (.ops all (o::l)::k) s:=by
 intro a w E g
 refine agp hg fun K hK=>?_
 have h1:=aY g x; have h2:=aY g kx
 rw [hx] at h1; rw [hk] at h2
 have h1:=aN.aK h1; have h2:=aN.aK h2
 obtain ⟨_,es,clock,hb,hs,hread,_⟩:=g.maps r _ hm
 obtain ⟨u,hu1,hu2⟩:=Ob (P:=C.P) (w:=w) (G:=E.G) (ks:=m.map (·.1)) (ds:=m.map (·.2)) ht hb (by simpa using hs) (fun i hi=>by
  simp only [adu] at hi
  rw [(hread i hi).1]; simp [aax,hi]) (fun i hi=>by
  simp only [adu] at hi
  have:=(hread i hi).2
  simpa [aax,hi] using this) h ok
 unfold am7 execOp
 simp only [ho,h1,h2,aex,hu1,adR,afN,agz]
 refine hK _ _ (next _ _ _ (g.iC hd ?_ (by cases ok <;> simp)))
 cases ok with
 | false=>exact hu2
 | true=>
  refine ⟨#[u,.bool fd],rfl,rfl,fun j hj=>?_⟩
  match j,hj with
  | 0,_=>exact hu2
  | 1,_=>exact .raw _ rfl
theorem R.Ky {t kt e:TypeId} {td:TypeDesc} {x kx vx:Operand} {r i:Nat} {m:jW} {key:Value} {d:PD} (ho:o.op = .mapUpdate t x kx vx∨o.op = .insert t x kx vx) (hg:o.guard=none) (hd:bP s o) (hx:aU s x = .pd (.raw (.map (some r)))) (hm:s.map r=some (.map m))
  (hk:aU s kx = .pd (.raw key)) (hv:aU s vx = .pd d) (ht:pF C.P t=some (kt,td,e)) (hkk:bV td key=true) (hks:∀ p∈m,bV td p.1=true) (hw:C.w0.heap.size≤r∨C.mu r) (hi:i<m.length) (hik:(m.getD i (undef,.ak [])).1=key)
  (next:R C (.ops all l::k) (St.put { s with maps:=up r (.map (m.set i (key,d))) s.maps } o.dst .dead)):R C (.ops all (o::l)::k) s:=by
 intro a w E g
 refine agp hg fun K hK=>?_
 have h1:=aY g x; have h2:=aY g kx; have h3:=aY g vx
 rw [hx] at h1; rw [hk] at h2; rw [hv] at h3
 have h1:=aN.aK h1; have h2:=aN.aK h2
 obtain ⟨hG,es,clock,hb,hs,hread,hborn,nX,hnd⟩:=g.maps r _ hm
 obtain ⟨hu,zu⟩:=yU ht
 have hkeys:=MapAt.keys (G:=E.G) (r:=r) (clock:=clock) hs (fun i hi=>(hread i hi).1)
 have hi2:i<es.size:=by omega
 have e1:es.getD i default=es[i]:=by simp [af6,hi2]
 have hkey:es[i].key=key:=by rw [← e1,(hread i hi).1,hik]
 have hf:=uT hkk es.toList 0 i (fun x hx=>by
  have:x.key∈es.toList.map (·.key):=adE.2 ⟨x,hx,rfl⟩
  rw [hkeys] at this
  obtain ⟨p,hp,he⟩:=adE.1 this
  rw [← he]; exact hks p hp) (by rw [hkeys]; exact hnd) (by simpa using hi2) (by simpa using hkey)
 have hkeep:(axW key key).run C.P w = .ok key w:=by
  have:aw0 10000 key key=true:=by
   unfold bV at hkk
   split at hkk
   ·rw [aw0]; simp
   ·rw [aw0,beq_toListBytes]; simp
   ·cases hkk
  simp [axW,this]
 have hrun:(au5 t (.map (some r)) key (a.eval vx)).run C.P w = .ok () (setB w r (.map (es.modify i fun e=>{ e with key:=key,val:=a.eval vx }) clock)):=by
  simp only [au5,aex,af9 hu,adR,lC hb,run_checkKey zu hkk,run_findKey zu hf,ao8]
  simp only [asL hi2,ajr,agd,hkey,hkeep,adR,Ji _ hb (by intros; simp),setB]
 have Wq:(execOp a.eval o).run C.P w = .ok .skip (setB w r (.map (es.modify i fun e=>{ e with key:=key,val:=a.eval vx }) clock)):=by
  rcases ho with ho | ho
  ·unfold execOp; simp only [ho,h1,h2,aex,hrun,adR,afN]
  ·unfold execOp; simp only [ho,h1,h2,aex,hrun,adR,afN]
 unfold am7
 rw [Wq,auv]
 have hkp:Keeps w E.G (setB w r (.map (es.modify i fun e=>{ e with key:=key,val:=a.eval vx }) clock)) E.G:=qV _ hG
 have hget:∀ j,(es.modify i fun e=>{ e with key:=key,val:=a.eval vx }).getD j default=if j=i then { es[i] with key:=key,val:=a.eval vx } else es.getD j default:=by
  intro j
  by_cases c:j<es.size
  ·simp only [af6,Array.size_modify,c,arQ,arf,Array.getElem_modify]
   by_cases e:i=j
   ·subst e; simp
   ·simp [e,aqm e]
  ·rw [adt (by omega)]
   simp [af6,c]
 have g':=g.setB hb (by intros; simp) hG hw (.map (es.modify i fun e=>{ e with key:=key,val:=a.eval vx }) clock) (up r (.map (m.set i (key,d))) s.maps) (fun b y hy=>by
  rw [jO] at hy
  split at hy
  ·rename_i e; cases hy; subst e
   refine ⟨hG,_,clock,tX hb _,by simp [hs],fun j hj=>?_,fun j j' hj hj'=>?_,fun j hj=>?_,?_⟩
   ·simp only [List.length_set] at hj
    rw [hget]
    by_cases c:j=i
    ·subst c; rw [adA rfl]; simp only [aax,auI hi,agd]
     exact ⟨trivial,aN.keep hkp h3⟩
    ·rw [adt c]
     simp only [aax,asM (aqm c)]
     have:=hread j hj
     simp only [aax] at this
     exact ⟨this.1,this.2.keep hkp⟩
   ·have hb2:∀ j,((es.modify i fun e=>{ e with key:=key,val:=a.eval vx }).getD j default).born=(es.getD j default).born:=fun j=>by
     rw [hget]; split
     ·rename_i e; subst e; rw [e1]
     ·rfl
    rw [hb2,hb2]; exact hborn j j' hj (by simpa using hj')
   ·have hb2:((es.modify i fun e=>{ e with key:=key,val:=a.eval vx }).getD j default).born=(es.getD j default).born:=by
     rw [hget]; split
     ·rename_i e; subst e; rw [e1]
     ·rfl
    rw [hb2]; exact nX j (by simpa using hj)
   ·have:(m.set i (key,d)).map (·.1)=m.map (·.1):=by
     rw [atn]
     apply auB
     intro j
     by_cases c:i=j
     ·subst c
      rw [auI (by simpa using hi)]
      simp only [ano,af4 hi,ajr]
      simp only [aax,af4 hi,agd] at hik
      rw [hik]
     ·rw [asM c]
    rw [this]; exact hnd
  ·rename_i hbr
   cases y with
   | map m'=>exact gJ.other hb hG hbr (by intros; simp) (g.maps b _ hy)
   | gone=>exact gJ.other hb hG hbr (by intros; simp) (g.maps b _ hy)
   | it r' l' c=>
    by_cases e:r'=r
    ·subst e
     obtain ⟨h0,since,last,clock',seen,es',i1,i2,i3,i4,i5,i6⟩:=g.maps b _ hy
     rw [hb] at i2; cases i2
     have hkb:((es.modify i fun e=>{ e with key:=key,val:=a.eval vx }).toList.map fun e=>(e.key,e.born))=es.toList.map fun e=>(e.key,e.born):=by
      apply auB
      intro j
      simp only [ano,aqn,ap4]
      by_cases c:i=j
      ·subst c; simp [hi2,hkey]
      ·simp [c]
     exact ⟨h0,since,last,clock,seen,_,(jq hbr _).trans i1,tX hb _,i3,i4,by rw [hkb]; exact i5,by rw [hkb]; exact i6⟩
    ·exact gJ.other hb hG hbr (by intro l c h; cases h; exact e rfl) (g.maps b _ hy))
 exact hK _ _ (next _ _ _ (g'.iC hd trivial (by simp)))
end
section
variable {C:Cx} {s:St} {a:Act} {w w':World} {E:Env} {P:Program} {all:Array Oper} {l:List Oper} {k:List KI} {o:Oper}
def dX.fK (r:Nat):dX→dX
 | .it r' l c=>if r'=r then .gone else .it r' l c
 | x=>x
def fK (r:Nat) (ms:List (Nat × dX)):List (Nat × dX):=ms.map fun p=>(p.1,p.2.fK r)
theorem gJ.gone {G:Pub} {b:Nat} {x:dX} (h:gJ C w G b x):∃ y,w.heap[b]? = some y∧∀ cs e d,y≠.cells cs e d:=by
 cases x with
 | map m=>obtain ⟨_,es,clock,h1,_⟩:=h; exact ⟨_,h1,by intros; simp⟩
 | it r l c=>obtain ⟨_,_,_,_,_,_,h1,_⟩:=h; exact ⟨_,h1,by intros; simp⟩
 | gone=>exact h.2
theorem gJ.fK {G:Pub} {b r:Nat} {x:dX} (h:gJ C w G b x):gJ C w G b (x.fK r)∧∀ l c,x.fK r≠.it r l c:=by
 cases x with
 | map m=>exact ⟨h,by intros; simp [dX.fK]⟩
 | gone=>exact ⟨h,by intros; simp [dX.fK]⟩
 | it r' l c=>
  simp only [dX.fK]
  split
  ·exact ⟨⟨h.lt,gJ.gone (x:=.it r' l c) h⟩,by intros; simp⟩
  ·rename_i e; exact ⟨h,by intro l c h; cases h; exact e rfl⟩
theorem R.jr {t kt e:TypeId} {td:TypeDesc} {x kx vx:Operand} {r:Nat} {m:jW} {key:Value} {d:PD} (ho:o.op = .mapUpdate t x kx vx∨o.op = .insert t x kx vx) (hg:o.guard=none) (hd:bP s o) (hx:aU s x = .pd (.raw (.map (some r)))) (hm:s.map r=some (.map m))
  (hk:aU s kx = .pd (.raw key)) (hv:aU s vx = .pd d) (ht:pF C.P t=some (kt,td,e)) (hkk:bV td key=true) (hks:∀ p∈m,bV td p.1=true∧p.1≠key) (hw:C.w0.heap.size≤r∨C.mu r)
  (next:R C (.ops all l::k) (St.put { s with maps:=up r (.map (m++[(key,d)])) (fK r s.maps) } o.dst .dead)):R C (.ops all (o::l)::k) s:=by
 intro a w E g
 refine agp hg fun K hK=>?_
 have h1:=aY g x; have h2:=aY g kx; have h3:=aY g vx
 rw [hx] at h1; rw [hk] at h2; rw [hv] at h3
 have h1:=aN.aK h1; have h2:=aN.aK h2
 obtain ⟨hG,es,clock,hb,hs,hread,hborn,nX,hnd⟩:=g.maps r _ hm
 obtain ⟨hu,zu⟩:=yU ht
 have hkeys:=MapAt.keys (G:=E.G) (r:=r) (clock:=clock) hs (fun i hi=>(hread i hi).1)
 have hf:=zq hkk es.toList 0 (fun x hx=>by
  have:x.key∈es.toList.map (·.key):=adE.2 ⟨x,hx,rfl⟩
  rw [hkeys] at this
  obtain ⟨p,hp,he⟩:=adE.1 this
  rw [← he]; exact hks p hp)
 have hrun:(au5 t (.map (some r)) key (a.eval vx)).run C.P w = .ok () (setB w r (.map (es.push { key:=key,val:=a.eval vx,born:=clock }) (clock+1))):=by
  simp only [au5,aex,af9 hu,adR,lC hb,run_checkKey zu hkk,run_findKey zu hf,Ji _ hb (by intros; simp),setB]
 have Wq:(execOp a.eval o).run C.P w = .ok .skip (setB w r (.map (es.push { key:=key,val:=a.eval vx,born:=clock }) (clock+1))):=by
  rcases ho with ho | ho
  ·unfold execOp; simp only [ho,h1,h2,aex,hrun,adR,afN]
  ·unfold execOp; simp only [ho,h1,h2,aex,hrun,adR,afN]
 unfold am7
 rw [Wq,auv]
 have hkp:Keeps w E.G (setB w r (.map (es.push { key:=key,val:=a.eval vx,born:=clock }) (clock+1))) E.G:=qV _ hG
 have hget:∀ j,j≤es.size→(es.push { key:=key,val:=a.eval vx,born:=clock }).getD j default=if j=es.size then { key:=key,val:=a.eval vx,born:=clock } else es.getD j default:=by
  intro j hj
  by_cases c:j=es.size
  ·subst c; simp [af6]
  ·have hj2:j<es.size:=by omega
   rw [adt c]
   simp [af6,hj2,Array.getElem_push,Nat.lt_succ_of_lt hj2]
 have g':=g.setB hb (by intros; simp) hG hw (.map (es.push { key:=key,val:=a.eval vx,born:=clock }) (clock+1)) (up r (.map (m++[(key,d)])) (fK r s.maps)) (fun b y hy=>by
  rw [jO] at hy
  split at hy
  ·rename_i e; cases hy; subst e
   refine ⟨hG,_,clock+1,tX hb _,by simp [hs],fun j hj=>?_,fun j j' hj hj'=>?_,fun j hj=>?_,?_⟩
   ·simp only [aec,List.length_singleton] at hj
    rw [hget j (by omega)]
    by_cases c:j=es.size
    ·rw [adA c]
     have:(m++[(key,d)]).getD j (undef,.ak [])=(key,d):=by rw [c,hs]; simp [aax]
     rw [this]
     exact ⟨rfl,aN.keep hkp h3⟩
    ·rw [adt c]
     have hj2:j<m.length:=by omega
     have:(m++[(key,d)]).getD j (undef,.ak [])=m.getD j (undef,.ak []):=by simp [aax,af8 hj2]
     rw [this]
     exact ⟨(hread j hj2).1,(hread j hj2).2.keep hkp⟩
   ·simp only [ay6] at hj'
    rw [hget j (by omega),hget j' (by omega),adt (by omega)]
    by_cases c:j'=es.size
    ·rw [adA c]; exact nX j (by omega)
    ·rw [adt c]; exact hborn j j' hj (by omega)
   ·simp only [ay6] at hj
    rw [hget j (by omega)]
    by_cases c:j=es.size
    ·rw [adA c]; simp
    ·rw [adt c]; have:=nX j (by omega); omega
   ·rw [aei,ap9]
    refine ⟨hnd,by simp,fun x hx y hy=>?_⟩
    simp only [ads,adG,adJ] at hy
    subst hy
    obtain ⟨p,hp,rfl⟩:=adE.1 hx
    exact (hks p hp).2
  ·rename_i hbr
   simp only [fK,gX] at hy
   cases h0:lk b s.maps with
   | none=>simp [h0] at hy
   | some y0=>
    simp [h0] at hy; subst hy
    obtain ⟨hy1,hy2⟩:=(g.maps b _ h0).fK (r:=r)
    exact gJ.other hb hG hbr hy2 hy1)
 exact hK _ _ (next _ _ _ (g'.iC hd trivial (by simp)))
theorem xY {α β:Type} (f:α→β):∀ (l:List α) (i:Nat),(l.eraseIdx i).map f=(l.map f).eraseIdx i
 | [],_=>rfl
 | _::_,0=>rfl
 | x::l,i+1=>by simp [List.eraseIdx_cons_succ,xY f l i]
def uX (r:Nat):dX→dX
 | .it r' l c=>if r'=r then .it r' l none else .it r' l c
 | x=>x
theorem R.anv {t kt e:TypeId} {td:TypeDesc} {x kx:Operand} {r i:Nat} {m:jW} {key:Value} {ts:Array TypeId} (ho:o.op = .call ⟨.builtin .delete,#[x,kx],ts⟩) (hts:ts[0]? = some t) (hg:o.guard=none) (hd:bP s o) (hx:aU s x = .pd (.raw (.map (some r)))) (hm:s.map r=some (.map m))
  (hk:aU s kx = .pd (.raw key)) (ht:pF C.P t=some (kt,td,e)) (hkk:bV td key=true) (hks:∀ p∈m,bV td p.1=true) (hw:C.w0.heap.size≤r∨C.mu r) (hi:i<m.length) (hik:(m.getD i (undef,.ak [])).1=key)
  (hit:∀ b left cur,s.map b=some (.it r left cur)→key∉left)
  (next:R C (.ops all l::k) (St.put { s with maps:=up r (.map (m.eraseIdx i)) (s.maps.map fun p=>(p.1,uX r p.2)) } o.dst .dead)):R C (.ops all (o::l)::k) s:=by
 intro a w E g
 refine agp hg fun K hK=>?_
 have h1:=aY g x; have h2:=aY g kx
 rw [hx] at h1; rw [hk] at h2
 have h1:=aN.aK h1; have h2:=aN.aK h2
 obtain ⟨hG,es,clock,hb,hs,hread,hborn,nX,hnd⟩:=g.maps r _ hm
 obtain ⟨hu,zu⟩:=yU ht
 have hkeys:=MapAt.keys (G:=E.G) (r:=r) (clock:=clock) hs (fun i hi=>(hread i hi).1)
 have hi2:i<es.size:=by omega
 have e1:es.getD i default=es[i]:=by simp [af6,hi2]
 have hkey:es[i].key=key:=by rw [← e1,(hread i hi).1,hik]
 have hf:=uT hkk es.toList 0 i (fun x hx=>by
  have:x.key∈es.toList.map (·.key):=adE.2 ⟨x,hx,rfl⟩
  rw [hkeys] at this
  obtain ⟨p,hp,he⟩:=adE.1 this
  rw [← he]; exact hks p hp) (by rw [hkeys]; exact hnd) (by simpa using hi2) (by simpa using hkey)
 have hlist:(es.eraseIdxIfInBounds i).toList=es.toList.eraseIdx i:=by simp [av6,hi2]
 have hsz:(es.eraseIdxIfInBounds i).size=es.size - 1:=by simp [av6,hi2]
 have hrun:(Builtin.delete_ ts o.type #[.map (some r),key]).run C.P w = .ok (.tuple #[]) (setB w r (.map (es.eraseIdxIfInBounds i) clock)):=by
  simp only [Builtin.delete_,hts,agl,List.getElem?_cons_zero,List.getElem?_cons_succ,aex,af9 hu,adR,lC hb,run_checkKey zu hkk,run_findKey zu hf,ao8,Ji _ hb (by intros; simp),afN,setB]
 unfold am7 execOp
 simp only [ho,resolve,aex,afN,adR,invoke,builtin,apo,ads,adG,h1,h2,hrun,agz]
 have hkp:Keeps w E.G (setB w r (.map (es.eraseIdxIfInBounds i) clock)) E.G:=qV _ hG
 have hget:∀ j,j<es.size - 1→(es.eraseIdxIfInBounds i).getD j default=if j<i then es.getD j default else es.getD (j+1) default:=by
  intro j hj
  have:(es.eraseIdxIfInBounds i).getD j default=(es.toList.eraseIdx i).getD j default:=by
   rw [← hlist,adr,aax,aqn]
  rw [this,aax,awQ]
  split <;> simp [adr]
 have akj:∀ j,(m.eraseIdx i).getD j (undef,.ak [])=if j<i then m.getD j (undef,.ak []) else m.getD (j+1) (undef,.ak []):=by
  intro j
  rw [aax,awQ]
  split <;> simp [aax]
 have hml:(m.eraseIdx i).length=m.length - 1:=List.length_eraseIdx_of_lt hi
 have g':=g.setB hb (by intros; simp) hG hw (.map (es.eraseIdxIfInBounds i) clock) (up r (.map (m.eraseIdx i)) (s.maps.map fun p=>(p.1,uX r p.2))) (fun b y hy=>by
  rw [jO] at hy
  split at hy
  ·rename_i e; cases hy; subst e
   refine ⟨hG,_,clock,tX hb _,by rw [hsz,hml,hs],fun j hj=>?_,fun j j' hj hj'=>?_,fun j hj=>?_,?_⟩
   ·rw [hml] at hj
    rw [hget j (by omega),akj]
    split
    ·exact ⟨(hread j (by omega)).1,(hread j (by omega)).2.keep hkp⟩
    ·exact ⟨(hread (j+1) (by omega)).1,(hread (j+1) (by omega)).2.keep hkp⟩
   ·rw [hsz] at hj'
    rw [hget j (by omega),hget j' (by omega)]
    split <;> split <;> first | exact hborn _ _ (by omega) (by omega) | omega
   ·rw [hsz] at hj
    rw [hget j (by omega)]
    split <;> exact nX _ (by omega)
   ·rw [xY]; exact hnd.sublist (List.eraseIdx_sublist _ _)
  ·rename_i hbr
   rw [gX] at hy
   cases h0:lk b s.maps with
   | none=>simp [h0] at hy
   | some y0=>
    simp [h0] at hy; subst hy
    cases y0 with
    | map m'=>exact gJ.other hb hG hbr (by intros; simp [uX]) (g.maps b _ h0)
    | gone=>exact gJ.other hb hG hbr (by intros; simp [uX]) (g.maps b _ h0)
    | it r' l' c=>
     by_cases e:r'=r
     ·subst e
      obtain ⟨hq0,since,last,clock',seen,es',i1,i2,i3,i4,i5,i6⟩:=g.maps b _ h0
      rw [hb] at i2; cases i2
      simp only [uX,aiq]
      refine ⟨hq0,since,last,clock,seen,_,(jq hbr _).trans i1,tX hb _,i3,i4,?_,by intro k hk; cases hk⟩
      have hnot:key∉l':=hit b l' c h0
      rw [← i5] at hnot ⊢
      rw [hlist,xY]
      have akk:seen.contains es[i].born=true:=by
       cases hc:seen.contains es[i].born with
       | true=>rfl
       | false=>
        refine (hnot (adE.2 ⟨(es[i].key,es[i].born),ana.2 ⟨adE.2 ⟨es[i],by simp,rfl⟩,by simp only [hc]; rfl⟩,hkey⟩)).elim
      congr 1
      have hlen:i<(es.toList.map fun e=>(e.key,e.born)).length:=by simpa using hi2
      rw [List.eraseIdx_eq_take_drop_succ,aqe]
      conv=>rhs; rw [← aj8 i (es.toList.map fun e=>(e.key,e.born)),aqe,arG hlen,apW]
      simp
      exact Array.contains_iff.1 akk
     ·exact gJ.other hb hG hbr (by intro l c h; simp only [uX,adt e] at h; cases h; exact e rfl) (by simp only [uX,adt e]; exact g.maps b _ h0))
 exact hK _ _ (next _ _ _ (g'.iC hd trivial (by simp)))
theorem R.anw {t:TypeId} {x:Operand} {r:Nat} {m:jW} {ts:Array TypeId} (ho:o.op = .call ⟨.builtin .len,#[x],ts⟩) (hts:ts[0]? = some t) (hg:o.guard=none) (hd:bP s o) (hx:aU s x = .pd (.raw (.map (some r)))) (hm:s.map r=some (.map m)) (ht:(pF C.P t).isSome=true)
  (next:R C (.ops all l::k) (s.put o.dst (.pd (.raw (.int .i64 m.length))))):R C (.ops all (o::l)::k) s:=by
 intro a w E g
 refine agp hg fun K hK=>?_
 have h1:=aY g x
 rw [hx] at h1
 have h1:=aN.aK h1
 obtain ⟨hG,es,clock,hb,hs,_⟩:=g.maps r _ hm
 obtain ⟨⟨kt,td,e⟩,ht⟩:=aho.1 ht
 obtain ⟨hu,zu⟩:=yU ht
 unfold am7 execOp
 have hrun:(Builtin.len_ ts o.type #[.map (some r)]).run C.P w = .ok (.int .i64 m.length) w:=by
  simp [Builtin.len_,hts,af9 hu,lC hb,hs,goInt]
 simp only [ho,resolve,aex,afN,adR,invoke,builtin,apo,ads,adG,h1,hrun,agz]
 exact hK _ _ (next _ _ _ (g.iC hd (.raw _ rfl) (by simp)))
end
section
variable {C:Cx} {s:St} {a:Act} {w w':World} {E:Env} {P:Program} {all:Array Oper} {l:List Oper} {k:List KI} {o:Oper}
theorem R.range {t:TypeId} {x:Operand} {d r:Nat} {m:jW} (ho:o.op = .range t x) (hg:o.guard=none) (hd:o.dst=some d) (hn:d<s.n) (hx:aU s x = .pd (.raw (.map (some r)))) (hm:s.map r=some (.map m)) (ht:(pF C.P t).isSome=true)
  (next:∀ b,b≠r→s.map b=none→R C (.ops all l::k) (St.set { s with maps:=(b,.it r (m.map (·.1)) none)::s.maps } d (.pd (.raw (.pointer (some ⟨b,0,none⟩)))))):R C (.ops all (o::l)::k) s:=by
 intro a w E g
 refine agp hg fun K hK=>?_
 have h1:=aY g x
 rw [hx] at h1
 have h1:=aN.aK h1
 obtain ⟨hG,es,clock,hb,hs,hread,hborn,nX,hnd⟩:=g.maps r _ hm
 obtain ⟨⟨kt,td,e⟩,ht⟩:=aho.1 ht
 obtain ⟨hu,zu⟩:=yU ht
 have hkeys:=MapAt.keys (G:=E.G) (r:=r) (clock:=clock) hs (fun i hi=>(hread i hi).1)
 have hrun:(Instr.range t (.map (some r))).run C.P w = .ok (.pointer (some ⟨w.heap.size,0,none⟩)) (w.alloc (.mapIter (some r) clock #[] clock)):=by
  simp only [Instr.range,aex,af9 hu,adR,lC hb,afN,run_newObj]; rfl
 unfold am7 execOp
 simp only [ho,h1,aex,hrun,adR,afN,agz]
 have hbl:=dQ w (.mapIter (some r) clock #[] clock)
 have g1:=g.grow (w':=w.alloc (.mapIter (some r) clock #[] clock)) hbl E.G (fun _ _ h=>h) (fun _ _ h=>.inl h)
 have hnone:s.map w.heap.size=none:=by
  cases h:s.map w.heap.size with
  | none=>rfl
  | some x=>have:=(g.maps _ _ h).lt; omega
 have hrl:r<w.heap.size:=(ad6.1 hb).1
 have g2:=g1.adz ((w.heap.size,.it r (m.map (·.1)) none)::s.maps) (fun b x h=>by
  simp only [lk] at h
  split at h
  ·rename_i e; cases h; subst e
   refine ⟨⟨g.kept.size,fun n hn=>by have:=g.gw _ _ hn; omega⟩,clock,clock,clock,#[],es,heap_alloc_new w _,?_,rfl,rfl,?_,by intro k hk; cases hk⟩
   ·rw [hbl.block r hrl]; exact hb
   ·rw [← hkeys]
    rw [aql.2 (by simp)]
    simp [Function.comp_def]
  ·exact g1.maps b x h)
 rw [hd]
 exact hK _ _ (next _ (by omega) hnone _ _ _ (g2.put hn (.raw _ rfl) (by simp)))
theorem QJ {p:Value × Nat}:∀ {L:List (Value × Nat)},(L.map (·.2)).Nodup→p∈L→∃ A B,L=A++p::B∧(L.filter fun q=>q.2 != p.2)=A++B:=by
 intro L hn hp
 obtain ⟨A,B,rfl⟩:=auf hp
 refine ⟨A,B,rfl,?_⟩
 simp only [aei,ads,ap9,apq] at hn
 obtain ⟨_,⟨hB,_⟩,hAB⟩:=hn
 rw [aqe,apW]
 have h1:(A.filter fun q=>q.2 != p.2)=A:=aql.2 fun q hq=>by
  have:=hAB q.2 (adE.2 ⟨q,hq,rfl⟩) p.2 (by simp)
  simpa using this
 have h2:(B.filter fun q=>q.2 != p.2)=B:=aql.2 fun q hq=>by
  simp only [bne_iff_ne,ne_eq]
  intro e
  exact hB (adE.2 ⟨q,hq,e⟩)
 rw [h1,h2]; simp
theorem D5 {es:Array MapEntry} (h:∀ i j,i<j→j<es.size→(es.getD i default).born<(es.getD j default).born):(es.toList.map (·.born)).Nodup:=by
 rw [List.nodup_iff_pairwise_ne,agc]
 intro i j hi hj hij
 simp only [adu,af7] at hi hj
 have:=h i j hij hj
 simp only [af6,hi,hj,arQ,arf] at this
 simp only [apX,arj,ne_eq]
 omega
theorem R.next {x:Operand} {b r:Nat} {m:jW} {left:List Value} {cur:Option Value} (ho:o.op = .next x false) (hg:o.guard=none) (hd:bP s o) (hx:aU s x = .pd (.raw (.pointer (some ⟨b,0,none⟩)))) (hit:s.map b=some (.it r left cur)) (hm:s.map r=some (.map m)) (hone:∀ p∈m,p.1.oneCell'=true)
  (over:left=[]→R C (.ops all l::k) (s.put o.dst (.tpl [.raw (.bool false)])))
  (step:∀ l1 key l2 i,left=l1++key::l2→i<m.length→(m.getD i (undef,.ak [])).1=key→R C (.ops all l::k) (St.put { s with maps:=up b (.it r (l1++l2) (some key)) s.maps } o.dst (.tpl [.raw (.bool true),.raw key,(m.getD i (undef,.ak [])).2]))):
  R C (.ops all (o::l)::k) s:=by
 intro a w E g
 refine agp hg fun K hK=>?_
 have h1:=aY g x
 rw [hx] at h1
 have h1:=aN.aK h1
 obtain ⟨hG,es,clock,hb,hs,hread,hborn,nX,hnd⟩:=g.maps r _ hm
 obtain ⟨hb0,since,last,clock',seen,es',i1,i2,i3,i4,i5,i6⟩:=g.maps b _ hit
 rw [hb] at i2; cases i2
 subst i3; subst i4
 have hbr:r≠b:=by intro e; subst e; rw [hb] at i1; cases i1
 have hGb:∀ n,¬ E.G b n∨True:=fun _=>.inr trivial
 have hmem:∀ e∈es.toList,∃ i,∃ h:i<es.size,es[i]=e:=fun e he=>by
  obtain ⟨i,hi,rfl⟩:=af2 he
  exact ⟨i,by simpa using hi,by simp⟩
 have hold:∀ e∈es.toList,e.born<last:=fun e he=>by
  obtain ⟨i,hi,rfl⟩:=hmem e he
  have:=nX i hi
  simpa [af6,hi] using this
 unfold am7 execOp
 simp only [ho,h1,aex]
 rcases run_next_at (P:=C.P) w o.type b r last last seen es last i1 hb hold (aew _) with ⟨h0,hrun⟩ | ⟨e,he,w1,hal,hrun⟩
 ·rw [hrun]
  simp only [adR,afN,agz]
  refine hK _ _ (over ?_ _ _ _ (g.iC hd ⟨#[.bool false],rfl,rfl,fun j hj=>?_⟩ (by simp)))
  ·rw [← i5]
   have hem:(leftOf es seen).toList=[]:=by rw [au6]; simpa using h0
   unfold leftOf at hem
   rw [avg] at hem
   rw [List.map_eq_nil_iff,awS]
   rw [awS] at hem
   intro p hp
   obtain ⟨e,he,rfl⟩:=adE.1 hp
   exact hem e he
  ·match j,hj with
   | 0,_=>exact .raw _ rfl
 ·have hel:e∈es.toList∧seen.contains e.born=false:=by
   unfold leftOf at he
   rw [avg] at he
   simpa using he
  obtain ⟨i,hi,rfl⟩:=hmem e hel.1
  have him:i<m.length:=by omega
  have hrd:=hread i him
  have e1:es.getD i default=es[i]:=by simp [af6,hi]
  rw [e1] at hrd
  have hkb:((es.toList.map fun e=>(e.key,e.born)).map (·.2)).Nodup:=by
   rw [apC]; exact D5 hborn
  obtain ⟨A,B,hAB,hfil⟩:=QJ (p:=(es[i].key,es[i].born)) (L:=(es.toList.map fun e=>(e.key,e.born)).filter fun p=>!seen.contains p.2)
   (hkb.sublist ((avh).map _)) (ana.2 ⟨adE.2 ⟨es[i],hel.1,rfl⟩,by simp only [hel.2]; rfl⟩)
  have hw1:w1.heap=w.heap:=by rcases hal with rfl | rfl <;> rfl
  have g1:aF C s a w1 E:=by
   rcases hal with rfl | rfl
   ·exact g
   ·exact g.drew
  have i1':w1.heap[b]? = some (.mapIter (some r) last seen last):=by rw [hw1]; exact i1
  have hb':w1.heap[r]? = some (.map es last):=by rw [hw1]; exact hb
  rw [hrun]
  simp only [adR,afN,agz]
  have akl:(es.toList.map fun e=>(e.key,e.born)).filter (fun p=>!(seen.push es[i].born).contains p.2)=A++B:=by
   rw [← hfil,List.filter_filter]
   apply avP
   intro q _
   simp [Array.contains_push,Bool.not_or,Bool.and_comm,bne]
   cases h:decide (q.2=es[i].born) <;> simp_all
  have hkp:Keeps w1 E.G (setB w1 b (.mapIter (some r) last (seen.push es[i].born) last)) E.G:=qV _ hb0.2
  have g2:aF C { s with maps:=up b (.it r (A.map (·.1)++B.map (·.1)) (some es[i].key)) s.maps } a (setB w1 b (.mapIter (some r) last (seen.push es[i].born) last)) E:=by
   refine g1.setB i1' (by intros; simp) hb0.2 (.inl hb0.1) _ _ (fun c y hy=>?_)
   rw [jO] at hy
   split at hy
   ·rename_i e; cases hy; subst e
    refine ⟨hb0,last,last,last,_,es,tX i1' _,(jq hbr _).trans hb',rfl,rfl,by rw [akl]; simp,fun q hq=>?_⟩
    cases hq
    exact ⟨(es[i].key,es[i].born),adE.2 ⟨es[i],hel.1,rfl⟩,rfl,by simp⟩
   ·rename_i hcb
    refine gJ.other i1' hb0.2 hcb (fun l cu e=>?_) (g1.maps c y hy)
    subst e
    obtain ⟨_,_,_,_,_,_,_,j2,_⟩:=g1.maps c _ hy
    rw [i1'] at j2; cases j2
  have hst:∀ w1:World,Go.ChangeMaps.setBlock w1 b (.mapIter (some r) last (seen.push es[i].born) last)=setB w1 b (.mapIter (some r) last (seen.push es[i].born) last):=fun _=>rfl
  rw [hst]
  have Ws:es[i].key.oneCell'=true:=by
   rw [hrd.1]
   have:m.getD i (undef,.ak [])∈m:=by simp [aax,him]
   exact hone _ this
  refine hK _ _ (step (A.map (·.1)) es[i].key (B.map (·.1)) i (by rw [← i5,hAB]; simp) him hrd.1.symm _ _ _ (g2.iC (v:=.tpl [.raw (.bool true),.raw es[i].key,(m.getD i (undef,.ak [])).2]) (u:=.tuple #[.bool true,es[i].key,es[i].val]) hd ⟨_,rfl,rfl,fun j hj=>?_⟩ (by simp)))
  match j,hj with
  | 0,_=>exact .raw _ rfl
  | 1,_=>exact .raw _ Ws
  | 2,_=>exact (hrd.2.keep (G':=E.G) (w':=w1) ⟨fun _ _ h=>h,fun c n _=>by simp [World.cell?,hw1],fun c n _=>by rw [hw1]⟩).keep hkp
theorem R.entry {x:Operand} {b r i:Nat} {m:jW} {left:List Value} {key:Value} (ho:o.op = .entry x) (hg:o.guard=none) (hd:bP s o) (hx:aU s x = .pd (.raw (.pointer (some ⟨b,0,none⟩)))) (hit:s.map b=some (.it r left (some key))) (hm:s.map r=some (.map m)) (hone:∀ p∈m,p.1.oneCell'=true)
  (hi:i<m.length) (hik:(m.getD i (undef,.ak [])).1=key)
  (next:R C (.ops all l::k) (s.put o.dst (.tpl [.raw key,(m.getD i (undef,.ak [])).2]))):R C (.ops all (o::l)::k) s:=by
 intro a w E g
 refine agp hg fun K hK=>?_
 have h1:=aY g x
 rw [hx] at h1
 have h1:=aN.aK h1
 obtain ⟨hG,es,clock,hb,hs,hread,hborn,nX,hnd⟩:=g.maps r _ hm
 obtain ⟨hb0,since,last,clock',seen,es',i1,i2,i3,i4,i5,i6⟩:=g.maps b _ hit
 rw [hb] at i2; cases i2
 subst i3; subst i4
 obtain ⟨p,hp,hpk,hback⟩:=i6 key rfl
 obtain ⟨e,he,rfl⟩:=adE.1 hp
 simp only at hpk hback
 obtain ⟨j,hj,rfl⟩:=af2 he
 have hj':j<es.size:=by simpa using hj
 simp only [arj] at hpk hback
 have e1:∀ j (h:j<es.size),es.getD j default=es[j]:=fun j h=>by simp [af6,h]
 have hkeys:=MapAt.keys (G:=E.G) (r:=r) (clock:=last) hs (fun i hi=>(hread i hi).1)
 have hji:j=i:=by
  have h2:(m.map (·.1))[j]'(by simpa [← hs] using hj')=(m.map (·.1))[i]'(by simpa using hi):=by
   have a1:=(hread j (by omega)).1
   rw [e1 j hj',hpk] at a1
   simp only [apX]
   have b1:m.getD j (undef,.ak [])=m[j]'(by omega):=by simp [aax,show j<m.length by omega]
   have b2:m.getD i (undef,.ak [])=m[i]:=by simp [aax,hi]
   rw [b1] at a1; rw [b2] at hik
   rw [← a1,hik]
  exact (List.getElem_inj hnd).1 h2
 subst hji
 have hrd:=hread j hi
 rw [e1 j hj'] at hrd
 have hf:es.find? (fun x=>x.born == es[j].born)=some es[j]:=by
  rw [← Array.find?_toList]; exact find_born es[j] es.toList (D5 hborn) (by simp)
 have hrun:(Instr.entry (.pointer (some ⟨b,0,none⟩))).run C.P w = .ok (.tuple #[key,es[j].val]) w:=by
  simp only [Instr.entry,aex,DW i1 (by intros; simp),adR,lC hb,hback,atg,aj9,ajs,hf,afN,hpk]
 unfold am7 execOp
 simp only [ho,h1,aex,hrun,adR,afN,agz]
 have Ws:key.oneCell'=true:=by
  rw [← hik]
  have:m.getD j (undef,.ak [])∈m:=by simp [aax,hi]
  exact hone _ this
 refine hK _ _ (next _ _ _ (g.iC (v:=.tpl [.raw key,(m.getD j (undef,.ak [])).2]) hd ⟨_,rfl,rfl,fun n hn=>?_⟩ (by simp)))
 match n,hn with
 | 0,_=>exact .raw _ Ws
 | 1,_=>exact hrd.2
def PD.thaw (r:Nat) (m:jW):PD→PD
 | .raw (.map (some r'))=>if r'=r then .mp (m.map (·.1)) (m.map (·.2)) else .raw (.map (some r'))
 | d=>d
def SV.thaw (r:Nat) (m:jW):SV→SV
 | .pd d=>.pd (d.thaw r m)
 | .kT t v=>.kT t (v.thaw r m)
 | v=>v
theorem aF.FI (g:aF C s a w E) {r:Nat} {m:jW} (hm:s.map r=some (.map m)) (hw:C.w0.heap.size≤r):∃ E':Env,aF C { s with slots:=s.slots.map fun p=>(p.1,p.2.thaw r m),vars:=s.vars.map fun p=>(p.1,p.2.map (SV.thaw r m)),maps:=up r .gone (fK r s.maps),gs:=s.gs.map fun p=>(p.1,p.2.thaw r m) } a w E':=by
 let G':Pub:=fun b n=>E.G b n∨b=r
 have hk:Keeps w E.G w G':=.same fun _ _ h=>.inl h
 obtain ⟨hG,es,clock,hb,hs,hread,hborn,nX,hnd⟩:=g.maps r _ hm
 have hrd:Rd w G' (.map (some r)) (.mp (m.map (·.1)) (m.map (·.2))):=by
  refine .mp _ _ r es clock (fun i=>match (es.getD i default).val with | .agg cs=>cs | v=>#[v]) (.inr rfl) hb (by simpa using hs) (by simp) (fun i hi=>?_) (fun i hi=>?_) (fun i j hi hj=>?_)
  ·simp only [adu] at hi
   rw [(hread i hi).1]; simp [aax,hi]
  ·simp only [adu] at hi
   have h1:=(hread i hi).2
   have e:(m.map (·.2)).getD i (.ak [])=(m.getD i (undef,.ak [])).2:=by simp [aax,hi]
   rw [e]
   generalize (m.getD i (undef,.ak [])).2=d at h1
   generalize (es.getD i default).val=v at h1
   cases d with
   | ak ds=>obtain ⟨cs,rfl,h2,_⟩:=h1; exact ⟨rfl,fun _=>h2⟩
   | raw u=>have h3:=Rd.oneCell h1; refine ⟨?_,fun h=>by cases h⟩; cases v <;> first | rfl | (simp [anj] at h3; done)
   | list _ _=>have h3:=Rd.oneCell h1; refine ⟨?_,fun h=>by cases h⟩; cases v <;> first | rfl | (simp [anj] at h3; done)
   | clo _ _=>have h3:=Rd.oneCell h1; refine ⟨?_,fun h=>by cases h⟩; cases v <;> first | rfl | (simp [anj] at h3; done)
   | mp _ _=>have h3:=Rd.oneCell h1; refine ⟨?_,fun h=>by cases h⟩; cases v <;> first | rfl | (simp [anj] at h3; done)
  ·simp only [adu] at hi
   have h1:=((hread i hi).2).keep hk
   have e:(m.map (·.2)).getD i (.ak [])=(m.getD i (undef,.ak [])).2:=by simp [aax,hi]
   rw [e] at hj ⊢
   generalize (m.getD i (undef,.ak [])).2=d at h1 hj
   generalize (es.getD i default).val=v at h1
   have one:Rd w G' v d→d.width=1→Rd w G' ((match v with | .agg cs=>cs | v=>#[v]).getD j undef) (d.cell j):=by
    intro h1 h2
    have h3:=Rd.oneCell h1
    obtain rfl:j=0:=by omega
    rw [Rd.cell0 h1]
    cases v <;> first | exact h1 | (simp [anj] at h3; done)
   cases d with
   | ak ds=>obtain ⟨cs,rfl,h2,h4⟩:=h1; exact h4 j hj
   | raw u=>exact one h1 rfl
   | list _ _=>exact one h1 rfl
   | clo _ _=>exact one h1 rfl
   | mp _ _=>exact one h1 rfl
 have hrel:∀ v x,Rel C.P w E s.row v x→Rel C.P w { E with G:=G' } s.row v (x.thaw r m):=by
  intro v x
  induction x generalizing v with
  | kT t x ih=>intro h; obtain ⟨u,e,h⟩:=h; exact ⟨u,e,ih _ h⟩
  | pd d=>
   intro h
   have h':=h.keep (E':={ E with G:=G' }) hk rfl rfl
   simp only [SV.thaw]
   unfold PD.thaw
   split
   ·rename_i r'
    split
    ·rename_i e; subst e
     have:=aN.aK h; subst this; exact hrd
    ·exact h'
   ·exact h'
  | _=>exact fun h=>h.keep (E':={ E with G:=G' }) hk rfl rfl
 refine ⟨{ E with G:=G' },?_⟩
 have mn:∀ b cur e,Mine C E.G w b cur e→Mine C G' w b cur e:=by
  intro b cur e mm
  refine ⟨mm.1,fun n h=>?_,mm.2.2⟩
  rcases h with h | h
  ·exact mm.2.1 n h
  ·subst h
   have h9:=mm.2.2
   rw [hb] at h9
   cases h9
 have hget:∀ t,(St.get { s with slots:=s.slots.map fun p=>(p.1,p.2.thaw r m),vars:=s.vars.map fun p=>(p.1,p.2.map (SV.thaw r m)),maps:=up r .gone (fK r s.maps),gs:=s.gs.map fun p=>(p.1,p.2.thaw r m) } t)=(s.get t).thaw r m:=by
  intro t; simp only [St.get,gX]; cases lk t s.slots <;> rfl
 have akm:∀ t,(St.fH { s with slots:=s.slots.map fun p=>(p.1,p.2.thaw r m),vars:=s.vars.map fun p=>(p.1,p.2.map (SV.thaw r m)),maps:=up r .gone (fK r s.maps),gs:=s.gs.map fun p=>(p.1,p.2.thaw r m) } t)=(s.fH t).thaw r m:=by
  intro t; simp only [St.fH,gX]; cases lk t s.gs <;> rfl
 have hvar:∀ t cs,(St.var { s with slots:=s.slots.map fun p=>(p.1,p.2.thaw r m),vars:=s.vars.map fun p=>(p.1,p.2.map (SV.thaw r m)),maps:=up r .gone (fK r s.maps),gs:=s.gs.map fun p=>(p.1,p.2.thaw r m) } t)=some cs→∃ c0,s.var t=some c0∧cs=c0.map (SV.thaw r m):=by
  intro t cs h
  simp only [St.var,gX] at h
  cases h0:s.var t with
  | none=>simp only [St.var] at h0; simp [h0] at h
  | some c0=>simp only [St.var] at h0; simp [h0] at h; exact ⟨c0,rfl,h.symm⟩
 have hbox:∀ t cs,(s.get t).thaw r m = .box cs→s.get t = .box cs:=by
  intro t cs h
  cases hx:s.get t <;> simp [hx,SV.thaw] at h ⊢ <;> exact h
 exact {
  kept:=g.kept
  defers:=g.defers
  size:=g.size
  g0:=fun b n h=>.inl (g.g0 b n h)
  g1:=fun b n h=>by
   rcases h with h | h
   ·exact g.g1 b n h
   ·subst h; exact .inr hw
  tab:=g.tab.keep hk
  gw:=fun b n h=>by
   rcases h with h | h
   ·exact g.gw b n h
   ·subst h; exact (ad6.1 hb).1
  slots:=fun t=>by rw [hget]; exact hrel _ _ (g.slots t)
  bG:=fun t=>by rw [akm]; exact hrel _ _ (g.bG t)
  vars:=fun t cs h=>by
   obtain ⟨c0,h0,rfl⟩:=hvar t cs h
   obtain ⟨cur,e,mm,h1,h2⟩:=g.vars t c0 h0
   refine ⟨cur,e,mn _ _ _ mm,by simpa using h1,fun j hj=>?_⟩
   simp only [adu] at hj
   have e2:(c0.map (SV.thaw r m)).getD j .dead=(c0.getD j .dead).thaw r m:=by simp [aax,hj]
   rw [e2]
   exact ⟨(h2 j hj).1,hrel _ _ (h2 j hj).2⟩
  rows:=fun i r' h=>by
   rcases g.rows i r' h with h | ⟨b,cap,cur,h1,mm,h2,h3,h4,h5,h6⟩
   ·exact .inl h
   ·exact .inr ⟨b,cap,cur,h1,mn _ _ _ mm,h2,h3,h4,h5,fun k j hk' hj=>(h6 k j hk' hj).keep hk⟩
  maps:=fun b y hy=>by
   simp only [St.map,jO] at hy
   split at hy
   ·rename_i e; cases hy; subst e
    exact ⟨(ad6.1 hb).1,_,hb,by intros; simp⟩
   ·rename_i hbr
    simp only [fK,gX] at hy
    cases h0:lk b s.maps with
    | none=>simp [h0] at hy
    | some y0=>
     simp [h0] at hy; subst hy
     exact ((g.maps b _ h0).fK (r:=r)).1.keep hk (fun hn n h=>by
      rcases h with h | h
      ·exact hn n h
      ·exact hbr h) (fun _ _ h _=>h)
  boxes:=fun t cs h=>by
   rw [hget] at h
   obtain ⟨h1,⟨e,mm⟩,h2⟩:=g.boxes t cs (hbox t cs h)
   exact ⟨h1,⟨e,mn _ _ _ mm⟩,h2⟩
  vv:=fun t t' cs cs' h h'=>by obtain ⟨c,h,_⟩:=hvar t cs h; obtain ⟨c',h',_⟩:=hvar t' cs' h'; exact g.vv t t' c c' h h'
  rr:=g.rr
  vr:=fun t cs i r' p h=>by obtain ⟨c,h,_⟩:=hvar t cs h; exact g.vr t c i r' p h
  bb:=fun t t' cs cs' h h'=>by rw [hget] at h h'; exact g.bb t t' cs cs' (hbox t cs h) (hbox t' cs' h')
  bv:=fun t t' cs cs' h h'=>by rw [hget] at h; obtain ⟨c',h',_⟩:=hvar t' cs' h'; exact g.bv t t' cs c' (hbox t cs h) h'
  br:=fun t cs i r' p h=>by rw [hget] at h; exact g.br t cs i r' p (hbox t cs h)
  dU:=g.dU
  dN:=g.dN
  dD:=g.dD }
theorem R.FI (r:Nat) (m:jW) (hm:s.map r=some (.map m)) (hw:C.w0.heap.size≤r) (h:R C k { s with slots:=s.slots.map fun p=>(p.1,p.2.thaw r m),vars:=s.vars.map fun p=>(p.1,p.2.map (SV.thaw r m)),maps:=up r .gone (fK r s.maps),gs:=s.gs.map fun p=>(p.1,p.2.thaw r m) }):R C k s:=by
 intro a w E g
 obtain ⟨E',g'⟩:=g.FI hm hw
 exact h a w E' g'
end
inductive iV where
 | ret (rs:List PD)
 | own (r:Row)
 | xZ (v:Value)
def OwnAt (w:World) (G:Pub) (n:Nat) (v:Value) (r:Row):Prop:=
 (v = .slice none 0 0∧r.ds=[])∨∃ b cap cur,v = .slice (some ⟨b,0,none⟩) r.ds.length cap∧n≤b∧(∀ o,¬ G b o)∧w.heap[b]? = some (.cells cur r.e (0,0))∧cur.size=cap * r.sz∧r.ds.length≤cap∧cap≤maxLen ∧
  (∀ k,k<r.ds.length→(r.ds.getD k (.ak [])).width=r.sz)∧(∀ k j,k<r.ds.length→j<r.sz→Rd w G (cur.getD (k * r.sz+j) undef) ((r.ds.getD k (.ak [])).cell j))
def Ends (w:World) (G:Pub) (n:Nat) (e:Ending):iV→Prop
 | .ret rs=>∃ v,e = .returned v∧rO w G v rs
 | .own r=>∃ v,e = .returned v∧OwnAt w G n v r
 | .xZ v=>e = .panicked [{ v:=v,recovered:=false }]
abbrev Maps:=List (Nat × jW)
def QK (w:World) (G:Pub) (M:Maps):Prop:=∀ r m,lk r M=some m→MapAt w G r m
def HY (w:World) (G:Pub) (mu:List Nat) (Q:iV→Maps→Prop) (e:Ending) (w':World):Prop:=
 ∃ res M' G',Q res M'∧(∀ b o,G b o→G' b o)∧(∀ b o,G' b o→G b o∨w.heap.size≤b)∧(∀ b o,G' b o→b<w'.heap.size)∧Kept false (·∈mu) w w'∧Ends w' G' w.heap.size e res∧QK w' G' M'∧∀ r m,lk r M'=some m→r∈mu∨w.heap.size≤r
def eH (P:Program) (f:FuncId) (args:List SV) (M:Maps) (mu:List Nat) (Q:iV→Maps→Prop):Prop:=
 aH P f∧∀ w G (vals:Array Value),Good w G→vals.size=args.length→(∀ i,i<args.length→jP P w G (vals.getD i undef) (args.getD i .dead))→QK w G M →
  Calls P f vals w (HY w G mu Q)
theorem eH.mono {P:Program} {f:FuncId} {args:List SV} {M:Maps} {mu:List Nat} {Q Q':iV→Maps→Prop} (h:eH P f args M mu Q) (hq:∀ res M',Q res M'→Q' res M'):eH P f args M mu Q':=
 ⟨h.1,fun w G vals h1 h2 h3 h4=>(h.2 w G vals h1 h2 h3 h4).mono fun e w' ⟨res,M',G',hQ,hrest⟩=>⟨res,M',G',hq res M' hQ,hrest⟩⟩
def Cx.Az (P:Program) (fn:Func) (w:World) (G:Pub) (mu:List Nat) (Q:iV→Maps→Prop):Cx:={ P:=P,w0:=w,G0:=G,mu:=(·∈mu),post:=bodyPost P fn (HY w G mu Q),dr:=false }
theorem EU (P:Program) (fn:Func) (w:World) (G:Pub) (mu:List Nat) (Q:iV→Maps→Prop):(Cx.Az P fn w G mu Q).P=P:=rfl
theorem cmV (P:Program) (fn:Func) (w:World) (G:Pub) (mu:List Nat) (Q:iV→Maps→Prop) (t:Nat):(Cx.Az P fn w G mu Q).vb0 t=none:=rfl
theorem cmR (P:Program) (fn:Func) (w:World) (G:Pub) (mu:List Nat) (Q:iV→Maps→Prop) (i:Nat):(Cx.Az P fn w G mu Q).iH i=none:=rfl
theorem cmW (P:Program) (fn:Func) (w:World) (G:Pub) (mu:List Nat) (Q:iV→Maps→Prop):(Cx.Az P fn w G mu Q).w0=w:=rfl
theorem QL (P:Program) (fn:Func) (w:World) (G:Pub) (mu:List Nat) (Q:iV→Maps→Prop) (r:Nat):(Cx.Az P fn w G mu Q).mu r=(r∈mu):=rfl
def St.bn (n:Nat) (args:List SV) (M:Maps):St:=⟨n,slotsOf 0 args,[],[],M.map fun p=>(p.1,.map p.2),[]⟩
theorem eH.mk {P:Program} {f:FuncId} {fn:Func} {c:Code} {args:List SV} {M:Maps} {mu:List Nat} {Q:iV→Maps→Prop} (hf:P.funcs[f]? = some fn) (hb:fn.body=some c) (he:aH P f) (hn:args.length≤fn.ntmps)
  (h:∀ w G,R (Cx.Az P fn w G mu Q) [.code c] (St.bn fn.ntmps args M)):eH P f args M mu Q:=by
 refine ⟨he,fun w G vals hG hs hv hM=>?_⟩
 refine calls_of_wp hf hb ?_
 let E:Env:=⟨G,fun _=>0,fun _=>none,fun _=>0⟩
 have hget:∀ t,(St.bn fn.ntmps args M).get t=args.getD t .dead:=by
  intro t; simp only [St.get,St.bn,mO]; simp [aax]
 have lV:∀ t,jP P w G ((vals++afQ (fn.ntmps - vals.size) undef).getD t undef) (args.getD t .dead):=by
  intro t
  by_cases ht:t<args.length
  ·have h1:t<vals.size:=by omega
   have:(vals++afQ (fn.ntmps - vals.size) undef).getD t undef=vals.getD t undef:=by
    simp only [adr,ao9 h1]
   rw [this]; exact hv t ht
  ·have:args.getD t .dead = .dead:=by simp [aax,ao6 (asV ht)]
   rw [this]; trivial
 have nb:∀ t cs,(St.bn fn.ntmps args M).get t≠.box cs:=fun t cs=>by rw [hget]; exact ((lV t).rel (E:=E) rfl (row:=fun _=>none)).2 cs
 have g:aF (Cx.Az P fn w G mu Q) (St.bn fn.ntmps args M) { tmps:=vals++afQ (fn.ntmps - vals.size) undef,defers:=[] } w E:={
  kept:=Kept.refl _ _ _
  bG:=fun t=>by simp only [St.fH,St.bn,lk,aqE]; trivial
  maps:=fun r m h=>by
   simp only [St.map,St.bn,gX] at h
   cases h0:lk r M with
   | none=>simp [h0] at h
   | some m0=>simp [h0] at h; subst h; exact hM r m0 h0
  dU:=fun t b h=>by cases h
  dN:=fun i p h=>by cases h
  dD:=fun i r p h=>by simp [St.row,St.bn,lk] at h
  defers:=rfl
  size:=by simp only [aqK,ari]; show _=fn.ntmps; omega
  g0:=fun _ _ h=>h
  g1:=fun _ _ h=>.inl h
  tab:=hG.tab
  gw:=hG.lt
  slots:=fun t=>by rw [hget]; exact ((lV t).rel rfl).1
  vars:=fun t cs h=>by simp [St.var,St.bn,lk] at h
  rows:=fun i r h=>by simp [St.row,St.bn,lk] at h
  boxes:=fun t cs h=>(nb t cs h).elim
  vv:=fun t t' cs cs' h=>by simp [St.var,St.bn,lk] at h
  rr:=fun i i' r r' p h=>by simp [St.row,St.bn,lk] at h
  vr:=fun t cs i r p h=>by simp [St.var,St.bn,lk] at h
  bb:=fun t t' cs cs' h=>(nb t cs h).elim
  bv:=fun t t' cs cs' h=>(nb t cs h).elim
  br:=fun t cs i r p h=>(nb t cs h).elim }
 have:=h w G _ w E g
 simp only [fin] at this
 exact wp_mono this (fun e a w h=>h)
section
variable {C:Cx} {s:St} {a:Act} {w w':World} {E:Env} {P:Program} {k:List KI} {all:Array Oper} {l:List Oper} {o:Oper}
theorem iW {fn:Func} {vs:List Value} {tm:Array Value} (h:(fn.results.toList.mapM (pX tm)).run P w = .ok vs w):(results fn tm).run P w = .ok (if h:vs.toArray.size=1 then vs.toArray[0] else .tuple vs.toArray) w:=by
 have hm:(fn.results.mapM (pX tm)).run P w = .ok vs.toArray w:=by
  rw [← Array.toArray_toList (xs:=fn.results),auA,Sem.run_map]
  rw [h]; rfl
 rw [DX,aex,hm]; rfl
theorem Vj {G:Pub} {vs:List Value} {rs:List PD} (h2:vs.length=rs.length) (h3:∀ j,j<rs.length→aN w G (vs.getD j undef) (rs.getD j (.ak []))):rO w G (if h:vs.toArray.size=1 then vs.toArray[0] else .tuple vs.toArray) rs:=by
 unfold rO
 split
 ·rename_i d
  have hl:vs.length=1:=by simpa using h2
  have:=h3 0 (by simp)
  obtain ⟨v,rfl⟩:=agj.1 hl
  simpa using this
 ·rename_i hne
  have hl:¬ vs.toArray.size=1:=by
   intro h
   have:rs.length=1:=by simpa [← h2] using h
   obtain ⟨d,rfl⟩:=agj.1 this
   exact hne d rfl
  rw [auV hl]
  refine ⟨vs.toArray,rfl,by simp [h2],fun j hj=>?_⟩
  have:=h3 j hj
  simpa [adr,aax] using this
theorem QM {fn:Func} {vc:Prop} {rs:List PD} {G:Pub} {mu:List Nat} {Q:iV→Maps→Prop} (g:aF (Cx.Az P fn w' G mu Q) s a w E) (h:resD P s fn.results.toList=some (vc,rs)) (bg:vc) (M':Maps) (hQ:Q (.ret rs) M')
  (hM:∀ r m,lk r M'=some m→s.map r=some (.map m)∧(r∈mu∨w'.heap.size≤r)):
  a.defers=[]∧∃ v,(results fn a.tmps).run P w = .ok v w∧HY w' G mu Q (.returned v) w:=by
 refine ⟨g.defers,?_⟩
 obtain ⟨vs,h1,h2,h3⟩:=oK g h bg
 exact ⟨_,iW h1,.ret rs,M',E.G,hQ,g.g0,g.g1,g.gw,g.kept,⟨_,rfl,Vj h2 h3⟩,fun r m h=>g.maps r _ (hM r m h).1,fun r m h=>(hM r m h).2⟩
theorem R.uY {fn:Func} {vc:Prop} {rs:List PD} {w0:World} {G:Pub} {mu:List Nat} {Q:iV→Maps→Prop} (M':Maps) (h:resD P s fn.results.toList=some (vc,rs)) (bg:vc) (hQ:Q (.ret rs) M')
  (hM:∀ r m,lk r M'=some m→s.map r=some (.map m)∧(r∈mu∨w0.heap.size≤r)):R (Cx.Az P fn w0 G mu Q) (.code .ret::k) s:=
 R.ret fun _ _ _ g=>QM g h bg M' hQ hM
theorem R.Wu {fn:Func} {vc:Prop} {rs:List PD} {w0:World} {G:Pub} {mu:List Nat} {Q:iV→Maps→Prop} (M':Maps) (h:resD P s fn.results.toList=some (vc,rs)) (bg:vc) (hQ:Q (.ret rs) M')
  (hM:∀ r m,lk r M'=some m→s.map r=some (.map m)∧(r∈mu∨w0.heap.size≤r)):R (Cx.Az P fn w0 G mu Q) [] s:=
 R.over fun _ _ _ g=>QM g h bg M' hQ hM
theorem R.rX {fn:Func} {t i:Nat} {r:Row} {w0:World} {G:Pub} {mu:List Nat} {Q:iV→Maps→Prop} (hres:fn.results.toList=[.tmp t]) (ht:s.get t = .own i) (hr:s.row i=some r) (hQ:Q (.own r) []):R (Cx.Az P fn w0 G mu Q) (.code .ret::k) s:=
 R.ret fun a w E g=>by
  refine ⟨g.defers,a.tmps.getD t undef,?_,.own r,[],E.G,hQ,g.g0,g.g1,g.gw,g.kept,⟨_,rfl,?_⟩,fun r m h=>by simp [lk] at h,fun r m h=>by simp [lk] at h⟩
  ·rw [iW (vs:=[a.tmps.getD t undef]) (by rw [hres]; simp [pX])]; rfl
  ·have:=g.slots t
   rw [ht] at this
   rcases this r hr with ⟨h1,h2⟩ | ⟨b,cap,h1,h2⟩
   ·exact .inl ⟨h2,g.lu i r hr h1⟩
   ·rcases g.rows i r hr with ⟨h3,_⟩ | ⟨b',cap',cur,h3,m,h4,h5,h6,h7,h8⟩
    ·rw [h3] at h1; cases h1
    ·rw [h3] at h1; cases h1
     exact .inr ⟨b,cap,cur,h2,g.dD i r (b,cap) hr h3 rfl,m.2.1,m.2.2,h4,h5,h6,h7,h8⟩
theorem qW {fn:Func} {w0:World} {G:Pub} {mu:List Nat} {Q:iV→Maps→Prop} {v:Value} (hQ:Q (.xZ v) []) (g:aF (Cx.Az P fn w0 G mu Q) s a w E):(Cx.Az P fn w0 G mu Q).post (.panic [{ v:=v,recovered:=false }]) a w:=
 ⟨g.defers,.xZ v,[],E.G,hQ,g.g0,g.g1,g.gw,g.kept,rfl,fun r m h=>by simp [lk] at h,fun r m h=>by simp [lk] at h⟩
theorem R.xZ {fn:Func} {w0:World} {G:Pub} {mu:List Nat} {Q:iV→Maps→Prop} {t:TypeId} {u:Value} {x:Operand} (ho:o.op = .panic x) (hg:o.guard=none) (hx:aU s x = .pd (.raw (.iface t u))) (hQ:Q (.xZ (.iface t u)) []):R (Cx.Az P fn w0 G mu Q) (.ops all (o::l)::k) s:=by
 intro a w E g
 refine agp hg fun K hK=>?_
 have h1:=aY g x
 rw [hx] at h1
 have h1:=aN.aK h1
 have hrun:(execOp a.eval o).run P w = .halt (.panic (.iface t u)) w:=by
  unfold execOp
  simp [ho,h1,Instr.panic,goPanic]
 unfold am7
 show o.upon P a K _ ((execOp a.eval o).run P w)
 rw [hrun,Oper.upon_panic]
 exact oG a w (qW hQ g) k
theorem aF.after (g:aF C s a w E) (mu:List Nat) (hdr:C.dr=false) (hk:Kept false (·∈mu) w w') (hmu:∀ r,r∈mu→(C.w0.heap.size≤r∨C.mu r)∧(∀ n,¬ E.G r n)∧∃ x,w.heap[r]? = some x∧∀ cs e d,x≠.cells cs e d) (G':Pub) (hG:∀ b o,E.G b o→G' b o)
  (hN:∀ b o,G' b o→E.G b o∨w.heap.size≤b) (YE:∀ b o,G' b o→b<w'.heap.size) (ms:List (Nat × dX)) (hm:∀ b y,lk b ms=some y→gJ C w' G' b y):aF C { s with maps:=ms } a w' { E with G:=G' }:=by
 have hblk:∀ b,b<w.heap.size→b∉mu→w'.heap[b]? = w.heap[b]?:=hk.block
 have hkp:Keeps w E.G w' G':=⟨hG,fun b o g'=>aqb (a:=⟨b,o,none⟩) (hblk b (g.gw b o g') (fun h=>(hmu b h).2.1 o g')),fun b o g'=>hblk b (g.gw b o g') (fun h=>(hmu b h).2.1 o g')⟩
 have mn:∀ b cur e,Mine C E.G w b cur e→Mine C G' w' b cur e:=by
  intro b cur e m
  have hl:=m.lt
  refine ⟨m.1,fun o ho=>?_,(hblk b hl (fun h=>?_)).trans m.2.2⟩
  ·rcases hN b o ho with h | h
   ·exact m.2.1 o h
   ·omega
  ·obtain ⟨_,_,x,hx,hn⟩:=hmu b h
   rw [m.2.2] at hx; cases hx; exact hn _ _ _ rfl
 have h0:=g.kept.size
 exact {
  kept:=⟨hk.os.trans g.kept.os,hk.tape.trans g.kept.tape,hk.output.trans g.kept.output,ajk g.kept.size hk.size,fun b hb hn=>(hblk b (by omega) (fun h=>by
   rcases (hmu b h).1 with h1 | h1
   ·omega
   ·exact hn h1)).trans (g.kept.block b hb hn),fun e=>by rw [hdr] at e; cases e⟩
  defers:=g.defers
  size:=g.size
  g0:=fun b o h=>hG b o (g.g0 b o h)
  g1:=fun b o h=>by
   rcases hN b o h with h | h
   ·exact g.g1 b o h
   ·exact .inr (by omega)
  tab:=g.tab.keep hkp
  gw:=YE
  slots:=fun t=>(g.slots t).keep (E':={ E with G:=G' }) hkp rfl rfl
  bG:=fun t=>(g.bG t).keep (E':={ E with G:=G' }) hkp rfl rfl
  vars:=fun t cs h=>by
   obtain ⟨cur,e,m,hs,hr⟩:=g.vars t cs h
   exact ⟨cur,e,mn _ _ _ m,hs,fun j hj=>⟨(hr j hj).1,(hr j hj).2.keep (E':={ E with G:=G' }) hkp rfl rfl⟩⟩
  rows:=fun i r h=>by
   rcases g.rows i r h with h | ⟨b,cap,cur,h1,m,h2,h3,h4,h5,h6⟩
   ·exact .inl h
   ·exact .inr ⟨b,cap,cur,h1,mn _ _ _ m,h2,h3,h4,h5,fun k j hk' hj=>(h6 k j hk' hj).keep hkp⟩
  maps:=hm
  boxes:=fun t cs h=>by
   obtain ⟨h1,⟨e,m⟩,h2⟩:=g.boxes t cs h
   exact ⟨h1,⟨e,mn _ _ _ m⟩,h2⟩
  vv:=g.vv
  rr:=g.rr
  vr:=g.vr
  bb:=g.bb
  bv:=g.bv
  br:=g.br
  dU:=g.dU
  dN:=g.dN
  dD:=g.dD }
def dX.wrote (mu:List Nat):dX→dX
 | .it r l c=>if mu.contains r then .gone else .it r l c
 | x=>x
def after (mu:List Nat) (M':Maps) (ms:List (Nat × dX)):List (Nat × dX):=(M'.map fun p=>(p.1,.map p.2))++(ms.filter fun p=>!mu.contains p.1).map fun p=>(p.1,p.2.wrote mu)
theorem xB {α:Type} (mu:List Nat) (j:Nat):∀ (l:List (Nat × α)),lk j (l.filter fun p=>!mu.contains p.1)=if mu.contains j then none else lk j l
 | []=>by simp [lk]
 | (i,x)::l=>by
  simp only [apW]
  by_cases h:i=j
  ·subst h
   cases c:mu.contains i with
   | true=>simp only [asw,aj9,ajs,aiq,xB mu i l,c]
   | false=>simp only [asQ,aj9,ajs,aiq,lk]
  ·split
   ·simp only [lk,adt h]; exact xB mu j l
   ·rw [xB mu j l]; simp only [lk,adt h]
theorem FK {α:Type} (j:Nat):∀ (l m:List (Nat × α)),lk j (l++m)=(lk j l).or (lk j m)
 | [],m=>by simp [lk]
 | (i,x)::l,m=>by simp only [List.cons_append,lk]; split <;> simp [FK j l m]
def Behind (C:Cx) (all:Array Oper) (l:List Oper) (k:List KI) (s:St) (dst:Option Nat) (id:Nat) (ms:List (Nat × dX)):iV→Prop
 | .ret rs=>R C (.ops all l::k) (St.put { s with maps:=ms } dst (fC rs))
 | .own r=>R C (.ops all l::k) (St.put (St.newRow { s with maps:=ms } id r) dst (.own id))
 | .xZ v=>∀ a w E,aF C { s with maps:=ms } a w E→C.post (.panic [{ v:=v,recovered:=false }]) a w
theorem YF (g:aF C s a w E) (hdr:C.dr=false) {f:FuncId} {args xs:List SV} {M:Maps} {mu:List Nat} {Q:iV→Maps→Prop} {vals:Array Value} (id:Nat) (hd:bP s o) (hid:C.iH id=none) (hc:jf C.P s.var s.row xs args false) (hf:eH C.P f args M mu Q)
  (hs:vals.size=xs.length) (hv:∀ i,i<xs.length→Rel C.P w E s.row (vals.getD i undef) (xs.getD i .dead))
  (hM:∀ r m,lk r M=some m→s.map r=some (.map m)) (hmu:∀ r,r∈mu→(lk r M).isSome=true∧(C.w0.heap.size≤r∨C.mu r))
  (next:∀ res M',Q res M'→(∀ r m,lk r M'=some m→r∈mu∨(C.w0.heap.size≤r∧s.map r=none))→Behind C all l k s o.dst id (after mu M' s.maps) res):
  Calls C.P f vals w fun e w'=>(∃ v,e = .returned v∧wpList C.P all (fin C k) l (a.put o.dst v) w')∨∃ ch,e = .panicked ch∧C.post (.panic ch) a w':=by
 have hok:=jf.ok g hc (vs:=vals.toList) (by simpa using hs) (fun i hi=>by simpa [adr,aax] using hv i hi)
 refine (hf.2 w E.G vals g.good (by rw [hs,hc.length]) (fun i hi=>by simpa [adr,aax] using hok i hi) (fun r m h=>g.maps r _ (hM r m h))).mono ?_
 rintro e w' ⟨res,M',G',hQ,hG,hN,YE,hk,Wv,hM',anx⟩
 have hfresh:∀ r m,lk r M'=some m→r∈mu∨(C.w0.heap.size≤r∧s.map r=none):=by
  intro r m h
  rcases anx r m h with h1 | h1
  ·exact .inl h1
  ·refine .inr ⟨ajk g.kept.size h1,?_⟩
   cases h2:s.map r with
   | none=>rfl
   | some x=>have:=(g.maps r x h2).lt; omega
 have hmu2:∀ r,r∈mu→(C.w0.heap.size≤r∨C.mu r)∧(∀ n,¬ E.G r n)∧∃ x,w.heap[r]? = some x∧∀ cs e d,x≠.cells cs e d:=by
  intro r hr
  obtain ⟨h1,h2⟩:=hmu r hr
  obtain ⟨m,hm⟩:=aho.1 h1
  have h3:=g.maps r _ (hM r m hm)
  exact ⟨h2,h3.1,gJ.gone h3⟩
 have g1:=g.after mu hdr hk hmu2 G' hG hN YE (after mu M' s.maps) (fun b y hy=>by
  unfold au.after at hy
  rw [FK,gX] at hy
  cases h1:lk b M' with
  | some m=>simp [h1] at hy; subst hy; exact hM' b m h1
  | none=>
   simp only [h1,arp,Option.none_or,gX,xB] at hy
   split at hy
   ·cases hy
   rename_i hbm
   have hbm:b∉mu:=by simpa using hbm
   cases h2:lk b s.maps with
   | none=>simp [h2] at hy
   | some y0=>
    simp [h2] at hy; subst hy
    have hold:=g.maps b y0 h2
    have hbl:=hold.lt
    have hkp:Keeps w E.G w' G':=⟨hG,fun c o g'=>aqb (a:=⟨c,o,none⟩) (hk.block c (g.gw c o g') (fun h=>(hmu2 c h).2.1 o g')),fun c o g'=>hk.block c (g.gw c o g') (fun h=>(hmu2 c h).2.1 o g')⟩
    have hnG:(∀ o,¬ E.G b o)→∀ o,¬ G' b o:=fun h o ho=>by
     rcases hN b o ho with h1 | h1
     ·exact h o h1
     ·omega
    have adB:b<w'.heap.size∧∃ x,w'.heap[b]? = some x∧∀ cs e d,x≠.cells cs e d:=by
     obtain ⟨x,hx,hn⟩:=gJ.gone hold
     exact ⟨ajq hbl hk.size,x,(hk.block b hbl hbm).trans hx,hn⟩
    cases y0 with
    | gone=>exact adB
    | map m=>exact MapAt.keep hkp (hnG hold.1) (hk.block b hbl hbm) hold
    | it r l c=>
     simp only [dX.wrote]
     split
     ·exact adB
     ·rename_i hb
      have hb:r∉mu:=by simpa using hb
      obtain ⟨h0,since,last,clock,seen,es,i1,i2,i3⟩:=hold
      exact ⟨⟨h0.1,hnG h0.2⟩,since,last,clock,seen,es,(hk.block b hbl hbm).trans i1,(hk.block r (ad6.1 i2).1 hb).trans i2,i3⟩)
 have hn:=next res M' hQ hfresh
 cases res with
 | ret rs=>
  obtain ⟨v,rfl,hr⟩:=Wv
  exact .inl ⟨v,rfl,hn _ _ _ (g1.iC hd (DV hr) (wB rs))⟩
 | own r=>
  obtain ⟨v,rfl,hr⟩:=Wv
  refine .inl ⟨v,rfl,?_⟩
  rcases hr with ⟨rfl,hnil⟩ | ⟨b,cap,cur,rfl,hb0,hbG,hbb,h1,h2,h3,h4,h5⟩
  ·have g2:=g1.row (i:=id) (r':=r) (w':=w') none (Keeps.refl _ _) g1.kept (aew _) (fun p hp=>by rw [hid] at hp; cases hp) (fun _ _ _=>rfl) (.inl ⟨rfl,hnil⟩) (fun b cap h=>by cases h)
   exact hn _ _ _ (g2.iC hd (fun r' _=>.inl ⟨by simp,rfl⟩) (by simp))
  ·have g2:=g1.aa9 (i:=id) (r':=r) (w':=w') (some (b,cap)) (Keeps.refl _ _) g1.kept (aew _) (fun p hp=>by rw [hid] at hp; cases hp) (fun _ _ _=>rfl)
    (.inr ⟨b,cap,cur,rfl,⟨.inl (ajk g.kept.size hb0),hbG,hbb⟩,h1,h2,h3,h4,h5⟩) (fun b' cap' h=>by
     cases h
     refine .inl ⟨ajk g.kept.size hb0,fun t cs hv=>?_,fun j r p hr hp=>?_,fun t cs hb=>?_⟩
     ·have:=g.zf (t:=t) (cs:=cs) hv; show E.vb t≠b; omega
     ·have:=g.mF (i:=j) (r:=r) hr hp; omega
     ·have:=g.y9 (t:=t) hb; show E.bx t≠b; omega)
   exact hn _ _ _ (g2.iC hd (fun r' hr'=>.inr ⟨b,cap,by simp,by
    have:r'=r:=by rw [St.iK,adA rfl] at hr'; cases hr'; rfl
    rw [this]⟩) (by simp))
 | xZ v=>exact .inr ⟨_,Wv,hn a w' _ g1⟩
theorem R.eG (hdr:C.dr=false) {f:FuncId} {xs:Array Operand} {ts:Array TypeId} {args:List SV} {M:Maps} {mu:List Nat} {Q:iV→Maps→Prop} (id:Nat) (hid:C.iH id=none) (ho:o.op = .call ⟨.value (.func f),xs,ts⟩) (hg:o.guard=none) (hd:bP s o) (hc:jf C.P s.var s.row (xs.toList.map (aU s)) args false)
  (hf:eH C.P f args M mu Q) (hM:∀ r m,lk r M=some m→s.map r=some (.map m)) (hmu:∀ r,r∈mu→(lk r M).isSome=true∧(C.w0.heap.size≤r∨C.mu r))
  (next:∀ res M',Q res M'→(∀ r m,lk r M'=some m→r∈mu∨(C.w0.heap.size≤r∧s.map r=none))→Behind C all l k s o.dst id (after mu M' s.maps) res):R C (.ops all (o::l)::k) s:=by
 intro a w E g
 refine agp hg fun K hK=>?_
 have hrun:=iF (P:=C.P) (w:=w) hf.1 a.eval o (.func f) xs ts #[] ho #[] rfl
 unfold am7
 rw [hrun,aqx]
 refine (YF g hdr id hd hid hc hf (by simp) (fun i hi=>?_) hM hmu next).mono ?_
 ·simp only [adu,af7] at hi
  have:=aY g xs[i]
  simpa [hi] using this
 ·rintro e w' (⟨v,rfl,h⟩ | ⟨ch,rfl,h⟩)
  ·exact hK _ _ h
  ·exact oG a w' h k
theorem R.qy (hdr:C.dr=false) {t:Nat} {f:FuncId} {xs:Array Operand} {ts:Array TypeId} {args:List SV} {M:Maps} {mu:List Nat} {Q:iV→Maps→Prop} (id:Nat) (hid:C.iH id=none) (ho:o.op = .call ⟨.value (.tmp t),xs,ts⟩) (ht:s.get t = .pd (.raw (.func (.func f) #[] #[]))) (hg:o.guard=none) (hd:bP s o) (hc:jf C.P s.var s.row (xs.toList.map (aU s)) args false)
  (hf:eH C.P f args M mu Q) (hM:∀ r m,lk r M=some m→s.map r=some (.map m)) (hmu:∀ r,r∈mu→(lk r M).isSome=true∧(C.w0.heap.size≤r∨C.mu r))
  (next:∀ res M',Q res M'→(∀ r m,lk r M'=some m→r∈mu∨(C.w0.heap.size≤r∧s.map r=none))→Behind C all l k s o.dst id (after mu M' s.maps) res):R C (.ops all (o::l)::k) s:=by
 intro a w E g
 refine agp hg fun K hK=>?_
 have hft:=g.slots t
 rw [ht] at hft
 have hrun:=iF (P:=C.P) (w:=w) hf.1 a.eval o (.tmp t) xs ts #[] ho #[] (aN.aK hft)
 unfold am7
 rw [hrun,aqx]
 refine (YF g hdr id hd hid hc hf (by simp) (fun i hi=>?_) hM hmu next).mono ?_
 ·simp only [adu,af7] at hi
  have:=aY g xs[i]
  simpa [hi] using this
 ·rintro e w' (⟨v,rfl,h⟩ | ⟨ch,rfl,h⟩)
  ·exact hK _ _ h
  ·exact oG a w' h k
end
def Cx.any (P:Program) (fn:Func) (w:World) (G:Pub) (mu:List Nat) (Post:Ending→World→Prop):Cx:={ P:=P,w0:=w,G0:=G,mu:=(·∈mu),post:=bodyPost P fn Post,dr:=false }
section
variable (P:Program) (fn:Func) (w:World) (G:Pub) (mu:List Nat) (Post:Ending→World→Prop)
theorem caP:(Cx.any P fn w G mu Post).P=P:=rfl
theorem caV (t:Nat):(Cx.any P fn w G mu Post).vb0 t=none:=rfl
theorem caR (i:Nat):(Cx.any P fn w G mu Post).iH i=none:=rfl
theorem caW:(Cx.any P fn w G mu Post).w0=w:=rfl
theorem caM (r:Nat):(Cx.any P fn w G mu Post).mu r=(r∈mu):=rfl
end
theorem Ux {P:Program} {f:FuncId} {fn:Func} {c:Code} {args:List SV} {M:Maps} {mu:List Nat} {Post:Ending→World→Prop} (hf:P.funcs[f]? = some fn) (hb:fn.body=some c) (hn:args.length≤fn.ntmps) {w:World} {G:Pub} {vals:Array Value}
  (hG:Good w G) (hs:vals.size=args.length) (hv:∀ i,i<args.length→jP P w G (vals.getD i undef) (args.getD i .dead)) (hM:QK w G M)
  (h:R (Cx.any P fn w G mu Post) [.code c] (St.bn fn.ntmps args M)):Calls P f vals w Post:=by
 refine calls_of_wp hf hb ?_
 let E:Env:=⟨G,fun _=>0,fun _=>none,fun _=>0⟩
 have hget:∀ t,(St.bn fn.ntmps args M).get t=args.getD t .dead:=by
  intro t; simp only [St.get,St.bn,mO]; simp [aax]
 have lV:∀ t,jP P w G ((vals++afQ (fn.ntmps - vals.size) undef).getD t undef) (args.getD t .dead):=by
  intro t
  by_cases ht:t<args.length
  ·have h1:t<vals.size:=by omega
   have:(vals++afQ (fn.ntmps - vals.size) undef).getD t undef=vals.getD t undef:=by
    simp only [adr,ao9 h1]
   rw [this]; exact hv t ht
  ·have:args.getD t .dead = .dead:=by simp [aax,ao6 (asV ht)]
   rw [this]; trivial
 have nb:∀ t cs,(St.bn fn.ntmps args M).get t≠.box cs:=fun t cs=>by rw [hget]; exact ((lV t).rel (E:=E) rfl (row:=fun _=>none)).2 cs
 have g:aF (Cx.any P fn w G mu Post) (St.bn fn.ntmps args M) { tmps:=vals++afQ (fn.ntmps - vals.size) undef,defers:=[] } w E:={
  kept:=Kept.refl _ _ _
  bG:=fun t=>by simp only [St.fH,St.bn,lk,aqE]; trivial
  maps:=fun r m h=>by
   simp only [St.map,St.bn,gX] at h
   cases h0:lk r M with
   | none=>simp [h0] at h
   | some m0=>simp [h0] at h; subst h; exact hM r m0 h0
  dU:=fun t b h=>by cases h
  dN:=fun i p h=>by cases h
  dD:=fun i r p h=>by simp [St.row,St.bn,lk] at h
  defers:=rfl
  size:=by simp only [aqK,ari]; show _=fn.ntmps; omega
  g0:=fun _ _ h=>h
  g1:=fun _ _ h=>.inl h
  tab:=hG.tab
  gw:=hG.lt
  slots:=fun t=>by rw [hget]; exact ((lV t).rel rfl).1
  vars:=fun t cs h=>by simp [St.var,St.bn,lk] at h
  rows:=fun i r h=>by simp [St.row,St.bn,lk] at h
  boxes:=fun t cs h=>(nb t cs h).elim
  vv:=fun t t' cs cs' h=>by simp [St.var,St.bn,lk] at h
  rr:=fun i i' r r' p h=>by simp [St.row,St.bn,lk] at h
  vr:=fun t cs i r p h=>by simp [St.var,St.bn,lk] at h
  bb:=fun t t' cs cs' h=>(nb t cs h).elim
  bv:=fun t t' cs cs' h=>(nb t cs h).elim
  br:=fun t cs i r p h=>(nb t cs h).elim }
 have:=h _ w E g
 simp only [fin] at this
 exact wp_mono this (fun e a w h=>h)
def QN (w:World) (G:Pub) (r:Row) (d:PD) (e:Ending) (w':World):Prop:=
 ∃ v u G',e = .returned (.tuple #[v,u])∧(∀ b o,G b o→G' b o)∧(∀ b o,G' b o→G b o∨w.heap.size≤b)∧(∀ b o,G' b o→b<w'.heap.size)∧Kept false (fun _=>False) w w'∧OwnAt w' G' w.heap.size v r∧aN w' G' u d
def YH (P:Program) (f:FuncId) (args:List SV) (r:Row) (d:PD):Prop:=
 aH P f∧∀ w G (vals:Array Value),Good w G→vals.size=args.length→(∀ i,i<args.length→jP P w G (vals.getD i undef) (args.getD i .dead))→Calls P f vals w (QN w G r d)
def Cx.YI (P:Program) (fn:Func) (w:World) (G:Pub) (r:Row) (d:PD):Cx:=Cx.any P fn w G [] (QN w G r d)
section
variable (P:Program) (fn:Func) (w:World) (G:Pub) (r:Row) (d:PD)
theorem cpP:(Cx.YI P fn w G r d).P=P:=rfl
theorem cpV (t:Nat):(Cx.YI P fn w G r d).vb0 t=none:=rfl
theorem cpR (i:Nat):(Cx.YI P fn w G r d).iH i=none:=rfl
end
theorem YH.mk {P:Program} {f:FuncId} {fn:Func} {c:Code} {args:List SV} {r:Row} {d:PD} (hf:P.funcs[f]? = some fn) (hb:fn.body=some c) (he:aH P f) (hn:args.length≤fn.ntmps)
  (h:∀ w G,R (Cx.YI P fn w G r d) [.code c] (St.bn fn.ntmps args [])):YH P f args r d:=
 ⟨he,fun w G vals hG hs hv=>Ux hf hb hn (M:=[]) (mu:=[]) hG hs hv (fun r m h=>by simp [lk] at h) (h w G)⟩
section
variable {C:Cx} {s:St} {a:Act} {w w':World} {E:Env} {P:Program} {k:List KI} {all:Array Oper} {l:List Oper} {o:Oper}
theorem aF.akn {i t:Nat} {r:Row} (g:aF C s a w E) (hr0:C.iH i=none) (ht:s.get t = .own i) (hr:s.row i=some r):OwnAt w E.G C.w0.heap.size (a.tmps.getD t undef) r:=by
 have:=g.slots t
 rw [ht] at this
 rcases this r hr with ⟨h1,h2⟩ | ⟨b,cap,h1,h2⟩
 ·exact .inl ⟨h2,g.lu i r hr h1⟩
 ·rcases g.rows i r hr with ⟨h3,_⟩ | ⟨b',cap',cur,h3,m,h4,h5,h6,h7,h8⟩
  ·rw [h3] at h1; cases h1
  ·rw [h3] at h1; cases h1
   exact .inr ⟨b,cap,cur,h2,g.dD i r (b,cap) hr h3 hr0,m.2.1,m.2.2,h4,h5,h6,h7,h8⟩
theorem R.Vk {fn:Func} {t t' i:Nat} {r:Row} {d:PD} {w0:World} {G:Pub} (hres:fn.results.toList=[.tmp t,.tmp t']) (ht:s.get t = .own i) (hr:s.row i=some r) (ht':s.get t' = .pd d):R (Cx.YI P fn w0 G r d) (.code .ret::k) s:=
 R.ret fun a w E g=>by
  refine ⟨g.defers,.tuple #[a.tmps.getD t undef,a.tmps.getD t' undef],?_,_,_,E.G,rfl,g.g0,g.g1,g.gw,?_,g.akn rfl ht hr,?_⟩
  ·rw [iW (vs:=[a.tmps.getD t undef,a.tmps.getD t' undef]) (by rw [hres]; simp [pX])]; rfl
  ·exact g.kept.mono (fun k h=>by cases h)
  ·have:=g.slots t'
   rw [ht'] at this
   exact this
theorem uZ {Q:Exit→Act→World→Prop} {v:Value} (hg:o.guard=none) (hrun:(execOp a.eval o).run P w = .ok (.value v) w) (h:wpList P all Q l (a.put o.dst v) w):wpList P all Q (o::l) a w:=by
 refine agp hg fun K hK=>?_
 unfold am7
 rw [hrun,agz]
 exact hK _ _ h
theorem R.abf (hdr:C.dr=false) {f:FuncId} {xs:Array Operand} {ts:Array TypeId} {args:List SV} {r:Row} {d:PD} {o2 o3 o4:Oper} {d1 d2 d3 d4:Nat} (id:Nat) (hid:C.iH id=none)
  (ho:o.op = .call ⟨.value (.func f),xs,ts⟩) (hg:o.guard=none) (hd:o.dst=some d1) (ho2:o2.op = .move (.tmp d1)) (hg2:o2.guard=none) (hd2:o2.dst=some d2) (ho3:o3.op = .extract (.tmp d2) 0) (hg3:o3.guard=none) (hd3:o3.dst=some d3)
  (ho4:o4.op = .extract (.tmp d2) 1) (hg4:o4.guard=none) (hd4:o4.dst=some d4) (hlt:d1<s.n∧d2<s.n∧d3<s.n∧d4<s.n) (hne:d2≠d3)
  (hc:jf C.P s.var s.row (xs.toList.map (aU s)) args false) (hf:YH C.P f args r d)
  (next:R C (.ops all l::k) (((((s.newRow id r).set d1 .dead).set d2 .dead).set d3 (.own id)).set d4 (.pd d))):R C (.ops all (o::o2::o3::o4::l)::k) s:=by
 intro a w E g
 refine agp hg fun K hK=>?_
 have hrun:=iF (P:=C.P) (w:=w) hf.1 a.eval o (.func f) xs ts #[] ho #[] rfl
 unfold am7
 rw [hrun,aqx]
 have vg:∀ i,i<(xs.toList.map (aU s)).length→Rel C.P w E s.row (((xs.map a.eval) ++ #[]).getD i undef) ((xs.toList.map (aU s)).getD i .dead):=by
  intro i hi
  simp only [adu,af7] at hi
  have:=aY g xs[i]
  simpa [hi] using this
 have hok:=jf.ok g hc (vs:=((xs.map a.eval) ++ #[]).toList) (by simp) (fun i hi=>by simpa [adr,aax] using vg i hi)
 refine (hf.2 w E.G _ g.good (by rw [← hc.length]; simp) (fun i hi=>by simpa [adr,aax] using hok i hi)).mono ?_
 rintro e w' ⟨v,u,G',rfl,hG,hN,YE,hk,hown,hu⟩
 refine hK _ _ ?_
 have hb:Go.RowKit.Below w.heap.size w w':=hk.y8
 have g1:=g.J6 hb (fun h=>by rw [hdr] at h; cases h) G' hG (fun b o h=>(hN b o h).imp (fun x=>x) (fun h'=>⟨h',YE b o h⟩))
 have g2:∃ E',aF C (s.newRow id r) a w' E'∧E'.G=G'∧Rel C.P w' E' (s.newRow id r).row v (.own id):=by
  rcases hown with ⟨rfl,hnil⟩ | ⟨b,cap,cur,rfl,hb0,hbG,hbb,h1,h2,h3,h4,h5⟩
  ·exact ⟨_,g1.row (i:=id) (r':=r) (w':=w') none (Keeps.refl _ _) g1.kept (aew _) (fun p hp=>by rw [hid] at hp; cases hp) (fun _ _ _=>rfl) (.inl ⟨rfl,hnil⟩) (fun b cap h=>by cases h),rfl,fun r' _=>.inl ⟨by simp,rfl⟩⟩
  ·refine ⟨_,g1.aa9 (i:=id) (r':=r) (w':=w') (some (b,cap)) (Keeps.refl _ _) g1.kept (aew _) (fun p hp=>by rw [hid] at hp; cases hp) (fun _ _ _=>rfl)
    (.inr ⟨b,cap,cur,rfl,⟨.inl (ajk g.kept.size hb0),hbG,hbb⟩,h1,h2,h3,h4,h5⟩) (fun b' cap' h=>by
     cases h
     refine .inl ⟨ajk g.kept.size hb0,fun t cs hv=>?_,fun j r p hr hp=>?_,fun t cs hb=>?_⟩
     ·have:=g.zf (t:=t) (cs:=cs) hv; show E.vb t≠b; omega
     ·have:=g.mF (i:=j) (r:=r) hr hp; omega
     ·have:=g.y9 (t:=t) hb; show E.bx t≠b; omega),rfl,fun r' hr'=>.inr ⟨b,cap,by simp,by
    have:r'=r:=by rw [St.iK,adA rfl] at hr'; cases hr'; rfl
    rw [this]⟩⟩
 obtain ⟨E',g2,hEG,hrel⟩:=g2
 have hsn:(s.newRow id r).n=s.n:=rfl
 rw [hd]
 have g3:=g2.dead (t:=d1) (by rw [hsn]; exact hlt.1) (.tuple #[v,u])
 have g4:=g3.dead (t:=d2) (by show d2<s.n; exact hlt.2.1) (.tuple #[v,u])
 have g5:=g4.put (t:=d3) (by show d3<s.n; exact hlt.2.2.1) (u:=v) (v:=.own id) hrel (by simp)
 have g6:=g5.put (t:=d4) (by show d4<s.n; exact hlt.2.2.2) (u:=u) (v:=.pd d) (by show aN w' E'.G u d; rw [hEG]; exact hu) (by simp)
 have hta:d1<a.tmps.size:=by rw [g.size]; exact hlt.1
 have htb:d2<a.tmps.size:=by rw [g.size]; exact hlt.2.1
 refine uZ hg2 (v:=.tuple #[v,u]) ?_ ?_
 ·have e1:(a.put (some d1) (.tuple #[v,u])).tmps.getD d1 undef = .tuple #[v,u]:=by rw [gK a d1 _ d1 hta,adA rfl]
  simp [execOp,ho2,Act.eval,e1]
 rw [hd2]
 have e2:((a.put (some d1) (.tuple #[v,u])).put (some d2) (.tuple #[v,u])).tmps.getD d2 undef = .tuple #[v,u]:=by rw [gK _ d2 _ d2 (by simpa [Act.put] using htb),adA rfl]
 refine uZ hg3 (v:=v) ?_ ?_
 ·simp [execOp,ho3,Act.eval,e2,axt]
 rw [hd3]
 refine uZ hg4 (v:=u) ?_ ?_
 ·have e3:(((a.put (some d1) (.tuple #[v,u])).put (some d2) (.tuple #[v,u])).put (some d3) v).tmps.getD d2 undef = .tuple #[v,u]:=by
   by_cases h3:d3<a.tmps.size
   ·rw [gK _ d3 _ d2 (by simpa [Act.put] using h3),adt hne]; exact e2
   ·exact (h3 (by rw [g.size]; exact hlt.2.2.1)).elim
  simp [execOp,ho4,Act.eval,e3,axt]
 rw [hd4]
 exact next _ _ _ g6
end
inductive tY:PD→PD→Prop
 | same (d:PD):tY d d
 | nil (sz:Nat):tY (.raw (.slice none 0 0)) (.list sz [])
theorem tY.rd {w:World} {G:Pub} {v:Value} {d d':PD} (h:tY d d') (hr:Rd w G v d):Rd w G v d':=by
 cases h with
 | same _=>exact hr
 | nil sz=>
  have:v = .slice none 0 0:=by cases hr; rfl
  subst this; exact .nil sz
inductive D6:List PD→List PD→Prop
 | nil:D6 [] []
 | cons {d e:PD} {l m:List PD} (h:tY d e) (t:D6 l m):D6 (d::l) (e::m)
theorem D6.len {l m:List PD} (h:D6 l m):l.length=m.length:=by induction h with | nil=>rfl | cons _ _ ih=>simp [ih]
theorem D6.get {l m:List PD} (h:D6 l m):∀ j,tY (l.getD j (.ak [])) (m.getD j (.ak [])):=by
 induction h with
 | nil=>intro j; simp; exact .same _
 | cons h _ ih=>intro j; cases j with
  | zero=>simpa using h
  | succ j=>simpa using ih j
inductive Dc:PD→PD→Prop
 | same (d:PD):Dc d d
 | nil (sz:Nat):Dc (.raw (.slice none 0 0)) (.list sz [])
 | ak {l m:List PD} (h:D6 l m):Dc (.ak l) (.ak m)
 | list (sz:Nat) {l m:List PD} (hl:l.length=m.length) (h:∀ i,i<l.length→∃ x y,l.getD i (.ak []) = .ak x∧m.getD i (.ak []) = .ak y∧D6 x y):Dc (.list sz l) (.list sz m)
theorem Dc.rd {w:World} {G:Pub} {v:Value} {d d':PD} (h:Dc d d') (hr:aN w G v d):aN w G v d':=by
 cases h with
 | same _=>exact hr
 | nil sz=>
  have:v = .slice none 0 0:=aN.aK hr
  subst this; exact Rd.nil sz
 | ak h=>
  obtain ⟨cs,rfl,hs,hc⟩:=hr
  exact ⟨cs,rfl,by rw [hs,h.len],fun j hj=>(h.get j).rd (hc j (by rw [h.len]; exact hj))⟩
 | @list sz l m hl h=>
  have hr:Rd w G v (.list sz l):=hr
  show Rd w G v (.list sz m)
  cases hr with
  | nil _=>
   have:m=[]:=ai9.1 (by simpa using hl.symm)
   subst this; exact .nil sz
  | empty _ a=>
   have:m=[]:=ai9.1 (by simpa using hl.symm)
   subst this; exact .empty sz a
  | list _ _ b off cap vs hcap hmax hw iU hcell hrd=>
   rw [hl]
   refine .list sz m b off cap vs (by omega) hmax (fun i hi=>?_) (fun i j hi hj=>iU i j (by omega) hj) (fun i j hi hj=>hcell i j (by omega) hj) (fun i j hi hj=>?_)
   ·obtain ⟨x,y,e1,e2,hxy⟩:=h i (by omega)
    have:=hw i (by omega)
    rw [e1] at this; rw [e2]
    simp only [PD.width] at this ⊢
    rw [← hxy.len]; exact this
   ·obtain ⟨x,y,e1,e2,hxy⟩:=h i (by omega)
    have:=hrd i j (by omega) hj
    rw [e1] at this; rw [e2]
    exact (hxy.get j).rd this
theorem R.up {C:Cx} {s:St} {k:List KI} (t:Nat) {d d':PD} (hn:t<s.n) (ht:s.get t = .pd d) (h:Dc d d') (next:R C k (s.set t (.pd d'))):R C k s:=by
 intro a w E g
 refine next a w E (g.CW hn ?_ (by simp))
 have:=g.slots t
 rw [ht] at this
 exact h.rd this
def Cx.seg (P:Program) (w:World) (G:Pub) (post:Exit→Act→World→Prop) (df:List Deferred):Cx:={ P:=P,w0:=w,G0:=G,post:=post,dr:=false,df:=df }
section
variable (P:Program) (w:World) (G:Pub) (post:Exit→Act→World→Prop) (df:List Deferred)
theorem Vl:(Cx.seg P w G post df).P=P:=rfl
theorem cgV (t:Nat):(Cx.seg P w G post df).vb0 t=none:=rfl
theorem cgR (i:Nat):(Cx.seg P w G post df).iH i=none:=rfl
theorem cgW:(Cx.seg P w G post df).w0=w:=rfl
end
def SV.pure:SV→SV
 | .pd d=>.pd d
 | _=>.dead
def St.pure (s:St):St:=⟨s.n,s.slots.map fun p=>(p.1,p.2.pure),[],[],[],[]⟩
theorem St.D7 (s:St) (t:Nat):s.pure.get t=(s.get t).pure:=by
 simp only [St.get,St.pure,gX]; cases lk t s.slots <;> rfl
abbrev E0 (G:Pub):Env:=⟨G,fun _=>0,fun _=>none,fun _=>0⟩
structure Seg (P:Program) (w:World) (G:Pub) (s:St) (a:Act) (df:List Deferred):Prop where
 size:a.tmps.size=s.n
 defers:a.defers=df
 good:Good w G
 slots:∀ t d,s.get t = .pd d→aN w G (a.tmps.getD t undef) d
 only:∀ t,(∃ d,s.get t = .pd d)∨s.get t = .dead
 bare:s.vars=[]∧s.rows=[]∧s.maps=[]∧s.gs=[]
section
variable {P:Program} {w w':World} {G G':Pub} {s:St} {a:Act} {df:List Deferred} {C:Cx} {E:Env} {k:List KI} {all:Array Oper} {l:List Oper}
theorem Seg.gam (h:Seg P w G s a df) (post:Exit→Act→World→Prop):aF (Cx.seg P w G post df) s a w (E0 G):=by
 obtain ⟨hv,hr,hm,hg⟩:=h.bare
 have nb:∀ t cs,s.get t≠.box cs:=fun t cs e=>by
  rcases h.only t with ⟨d,hd⟩ | hd <;> rw [hd] at e <;> cases e
 exact {
  kept:=Kept.refl _ _ _
  defers:=h.defers
  size:=h.size
  g0:=fun _ _ h=>h
  g1:=fun _ _ h=>.inl h
  gw:=h.good.lt
  tab:=h.good.tab
  slots:=fun t=>by
   rcases h.only t with ⟨d,hd⟩ | hd
   ·rw [hd]; exact h.slots t d hd
   ·rw [hd]; trivial
  bG:=fun t=>by simp only [St.fH,hg,lk,aqE]; trivial
  vars:=fun t cs h=>by simp [St.var,hv,lk] at h
  rows:=fun i r h=>by simp [St.row,hr,lk] at h
  maps:=fun r m h=>by simp [St.map,hm,lk] at h
  boxes:=fun t cs h=>(nb t cs h).elim
  vv:=fun t t' cs cs' h=>by simp [St.var,hv,lk] at h
  rr:=fun i i' r r' p h=>by simp [St.row,hr,lk] at h
  vr:=fun t cs i r p h=>by simp [St.var,hv,lk] at h
  bb:=fun t t' cs cs' h=>(nb t cs h).elim
  bv:=fun t t' cs cs' h=>(nb t cs h).elim
  br:=fun t cs i r p h=>(nb t cs h).elim
  dU:=fun t b h=>by cases h
  dN:=fun i p h=>by cases h
  dD:=fun i r p h=>by simp [St.row,hr,lk] at h }
theorem aF.H6 (g:aF C s a w E):Seg C.P w E.G s.pure a C.df where
 size:=g.size
 defers:=g.defers
 good:=g.good
 slots:=fun t d h=>by
  rw [St.D7] at h
  have:=g.slots t
  cases e:s.get t <;> rw [e] at h <;> simp only [SV.pure] at h <;> cases h
  rw [e] at this; exact this
 only:=fun t=>by
  rw [St.D7]
  cases s.get t <;> simp [SV.pure]
 bare:=⟨rfl,rfl,rfl,rfl⟩
theorem Seg.keep (h:Seg P w G s a df) (hk:Keeps w G w' G') (hg:∀ b o,G' b o→b<w'.heap.size):Seg P w' G' s a df:=
 ⟨h.size,h.defers,⟨hg,h.good.tab.keep hk⟩,fun t d ht=>(h.slots t d ht).keep hk,h.only,h.bare⟩
theorem Seg.put (h:Seg P w G s a df) {t:Nat} (ht:t<s.n) {v:Value} {d:PD} (hv:aN w G v d):Seg P w G (s.set t (.pd d)) (a.put (some t) v) df where
 size:=(show (a.tmps.setIfInBounds t _).size=s.n by rw [asU]; exact h.size)
 defers:=h.defers
 good:=h.good
 slots:=fun j d' hj=>by
  rw [St.gW] at hj
  rw [gK a t v j (by rw [h.size]; exact ht)]
  split at hj
  ·cases hj; rename_i e; rw [adA e]; exact hv
  ·rename_i e; rw [adt e]; exact h.slots j d' hj
 only:=fun j=>by
  rw [St.gW]
  split
  ·exact .inl ⟨d,rfl⟩
  ·exact h.only j
 bare:=h.bare
theorem Seg.kill (h:Seg P w G s a df) {t:Nat} (ht:t<s.n) (v:Value):Seg P w G (s.set t .dead) (a.put (some t) v) df where
 size:=(show (a.tmps.setIfInBounds t _).size=s.n by rw [asU]; exact h.size)
 defers:=h.defers
 good:=h.good
 slots:=fun j d' hj=>by
  rw [St.gW] at hj
  rw [gK a t v j (by rw [h.size]; exact ht)]
  split at hj
  ·cases hj
  ·rename_i e; rw [adt e]; exact h.slots j d' hj
 only:=fun j=>by
  rw [St.gW]
  split
  ·exact .inr rfl
  ·exact h.only j
 bare:=h.bare
def vk:List KI→Bool
 | []=>true
 | .aP _::_=>false
 | _::k=>vk k
theorem kJ {C C2:Cx} (hP:C2.P=C.P) (hp:C2.post=C.post):∀ k,vk k=true→fin C2 k=fin C k
 | [],_=>by funext e a w; simp only [fin,hp]
 | .aP J::k,h=>by cases h
 | .code c::k,h=>by
  have ih:=kJ hP hp k h
  funext e a w; cases e <;> simp only [fin,ih,hP]
 | .ops x y::k,h=>by
  have ih:=kJ hP hp k h
  funext e a w; cases e <;> simp only [fin,ih,hP]
 | .inBlock id::k,h=>by
  have ih:=kJ hP hp k h
  funext e a w; cases e <;> simp only [fin,ih]
theorem R.swK {s2:St} (hb:vk k=true) (h:Seg C.P w G s2 a df) (hr:R (Cx.seg C.P w G C.post df) k s2):fin C k .normal a w:=by
 have:=hr a w _ (h.gam C.post)
 rwa [kJ (C:=C) (C2:=Cx.seg C.P w G C.post df) rfl rfl k hb] at this
theorem R.sw {s2:St} (hb:vk k=true) (h:Seg C.P w G s2 a df) (hr:R (Cx.seg C.P w G C.post df) (.ops all l::k) s2):wpList C.P all (fin C k) l a w:=
 R.swK (k:=.ops all l::k) hb h hr
theorem QO {c:Code} {Q:Exit→Act→World→Prop} (h:Seg P w G s a df) (hr:R (Cx.seg P w G Q df) [.code c] s):c.wp P Q a w:=hr a w _ (h.gam Q)
theorem pI {id:Nat}:∀ {k:List KI},jh id k=none→∀ a w,C.post (.exit id) a w→fin C k (.exit id) a w
 | [],_,_,_,hf=>hf
 | .inBlock id' :: k,h,a,w,hf=>by
  simp only [jh] at h
  simp only [fin]
  split at h
  ·cases h
  ·rename_i e; rw [adt e]; exact pI h a w hf
 | .code c::k,h,a,w,hf=>pI (k:=k) (by simpa [jh] using h) a w hf
 | .ops x y::k,h,a,w,hf=>pI (k:=k) (by simpa [jh] using h) a w hf
 | .aP J::k,h,a,w,hf=>pI (k:=k) (by simpa [jh] using h) a w hf
theorem R.MX {id:Nat} (he:jh id k=none) (h:∀ a w E,aF C s a w E→C.post (.exit id) a w):R C (.code (.exit id)::k) s:=
 fun a w E g=>wp_exit (pI he a w (h a w E g))
theorem R.loopS {c:Code} (I:Nat→Act→World→Prop) (n0:Nat) (h0:∀ a w E,aF C s a w E→I n0 a w)
  (round:∀ n a w,I n a w→c.wp C.P (Exit.then (fun a' w'=>∃ n',n' < n∧I n' a' w') (fin C k)) a w):R C (.code (.loop c)::k) s:=by
 intro a w E g
 refine wp_loop_ghost I n0 (h0 a w E g) ?_
 intro n a w hI
 refine wp_mono (round n a w hI) ?_
 intro e a' w' hq
 cases e with
 | normal=>exact hq
 | exit id=>exact hq
 | goto l=>exact hq
 | ret=>exact hq
 | panic ch=>exact hq
 | outgrown=>exact hq
end
section
variable {C:Cx} {s:St} {a:Act} {w:World} {E:Env} {all:Array Oper} {l:List Oper} {k:List KI} {o:Oper}
theorem aF.adC (g:aF C s a w E) (hd:bP s o):aF C (s.put o.dst (.tpl [])) (a.put o.dst undef) w E:=
 g.iC hd (v:=.tpl []) ⟨#[],rfl,rfl,fun j hj=>by simp at hj⟩ (by simp)
theorem Wx (g:aF C s a w E) {j t:Nat} {want:Bool} (hg:o.guard=some (j,want)) (hj:(all[j]?).bind (·.dst)=some t) (hc:s.get t = .tpl []):Region.wanted o (yielded all a.tmps)=false:=by
 have h:=g.slots t
 rw [hc] at h
 obtain ⟨vs,hv,_⟩:=h
 simp only [Region.wanted,hg,yielded,hj,Option.bind_some]
 have:a.tmps[t]? = none∨a.tmps[t]? = some (.tuple vs):=by
  cases h:a.tmps[t]? with
  | none=>exact .inl rfl
  | some u=>rw [adr,h] at hv; simp only [agd] at hv; exact .inr (by rw [hv])
 rcases this with h | h <;> rw [h] <;> rfl
theorem R.abg {j t:Nat} {want c:Bool} (hg:o.guard=some (j,want)) (hj:(all[j]?).bind (·.dst)=some t) (hc:s.get t = .pd (.raw (.bool c))) (hw:(c == want)=true)
  (h:R C (.ops all ({ o with guard:=none }::l)::k) s):R C (.ops all (o::l)::k) s:=fun a w E g=>by
 have:=h a w E g
 simp only [fin,wpList] at this ⊢
 rw [FB g hg hj hc,hw,adA rfl]
 exact this
theorem R.gno {j t:Nat} {want c:Bool} (hg:o.guard=some (j,want)) (hj:(all[j]?).bind (·.dst)=some t) (hc:s.get t = .pd (.raw (.bool c))) (hw:(c == want)=false) (hd:bP s o)
  (h:R C (.ops all l::k) (s.put o.dst (.tpl []))):R C (.ops all (o::l)::k) s:=fun a w E g=>by
 simp only [fin,wpList]
 rw [FB g hg hj hc,hw,adt (by simp)]
 exact h _ w E (g.adC hd)
theorem R.adD {j t:Nat} {want:Bool} (hg:o.guard=some (j,want)) (hj:(all[j]?).bind (·.dst)=some t) (hc:s.get t = .tpl []) (hd:bP s o)
  (h:R C (.ops all l::k) (s.put o.dst (.tpl []))):R C (.ops all (o::l)::k) s:=fun a w E g=>by
 simp only [fin,wpList]
 rw [Wx g hg hj hc,adt (by simp)]
 exact h _ w E (g.adC hd)
end
def tZ (C:Cx):Nat→List KI→St→Prop
 | 0,k,s=>R C k s
 | _+1,[],s=>R C [] s
 | n+1,.inBlock _::k,s=>tZ C n k s
 | _+1,.aP J::k,s=>R C (.aP J::k) s
 | n+1,.ops _ []::k,s=>tZ C n k s
 | n+1,.ops all (o::l)::k,s=>match o.guard with
  | none=>ev1 C all o l k s fun s'=>tZ C n (.ops all l::k) s'
  | some (j,want)=>match (all[j]?).bind (·.dst) with
   | some t=>match s.get t with
    | .pd (.raw (.bool c))=>if (c == want)=true then ev1 C all { o with guard:=none } l k s fun s'=>tZ C n (.ops all l::k) s' else fM s o∧tZ C n (.ops all l::k) (s.put o.dst (.tpl []))
    | .tpl []=>fM s o∧tZ C n (.ops all l::k) (s.put o.dst (.tpl []))
    | _=>R C (.ops all (o::l)::k) s
   | none=>R C (.ops all (o::l)::k) s
 | n+1,.code c::k,s=>match c with
  | .seq x y=>tZ C n (.code x :: .code y::k) s
  | .skip=>tZ C n k s
  | .block id c=>tZ C n (.code c :: .inBlock id::k) s
  | .exit id=>match jh id k with
   | some k'=>tZ C n k' s
   | none=>R C (.code (.exit id)::k) s
  | .cond (.tmp t) x y=>match s.get t with
   | .pd (.raw (.bool b))=>if b=true then tZ C n (.code x::k) s else tZ C n (.code y::k) s
   | _=>R C (.code (.cond (.tmp t) x y)::k) s
  | .region _ ops false=>tZ C n (.ops ops ops.toList::k) s
  | c=>R C (.code c::k) s
theorem jv {C:Cx}:∀ (n:Nat) (k:List KI) (s:St),tZ C n k s→R C k s
 | 0,k,s,h=>h
 | _+1,[],s,h=>h
 | n+1,.inBlock _::k,s,h=>R.inBlock (jv n k s h)
 | _+1,.aP J::k,s,h=>h
 | n+1,.ops _ []::k,s,h=>R.nil (jv n k s h)
 | n+1,.ops all (o::l)::k,s,h=>by
  simp only [tZ] at h
  split at h
  ·rename_i hg
   exact zA hg (fun s' h'=>jv n _ s' h') h
  ·rename_i j want hg
   split at h
   ·rename_i t hj
    split at h
    ·rename_i c hc
     cases hw:(c == want) with
     | true=>rw [adA hw] at h; exact R.abg hg hj hc hw (zA rfl (fun s' h'=>jv n _ s' h') h)
     | false=>rw [adt (by simp [hw])] at h; exact R.gno hg hj hc hw (ah h.1) (jv n _ _ h.2)
    ·rename_i hc
     exact R.adD hg hj hc (ah h.1) (jv n _ _ h.2)
    ·exact h
   ·exact h
 | n+1,.code c::k,s,h=>by
  unfold tZ at h
  split at h
  ·exact R.seq (jv n _ s h)
  ·exact R.skip (jv n _ s h)
  ·exact R.block (jv n _ s h)
  ·split at h
   ·rename_i k' he; exact R.exit he (jv n _ s h)
   ·exact h
  ·split at h
   ·rename_i b hb; exact R.cond hb (fun e=>by rw [adA e] at h; exact jv n _ s h) (fun e=>by rw [adt (by simp [e])] at h; exact jv n _ s h)
   ·exact h
  ·exact R.region (jv n _ s h)
  ·exact h
theorem aj {C:Cx} {k:List KI} {s:St} (h:tZ C 80 k s):R C k s:=jv 80 k s h
theorem aQl {C:Cx} {k:List KI} {s:St} {Q:Prop} (q:Q) (h:Q→tZ C 80 k s:=by simp only [go_sem,↓reduceIte]; exact fun h=>h):R C k s:=aj (h q)
end Go.au
end
