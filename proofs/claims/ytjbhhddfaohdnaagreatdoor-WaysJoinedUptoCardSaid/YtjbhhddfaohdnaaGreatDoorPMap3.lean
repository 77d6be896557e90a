/- A part of the proof: Map, Map2, Map3. -/
import Derived.Test.YtjbhhddfaohdnaaGreatDoorPEv
import Derived.Maps.RangeRun
set_option linter.all false
set_option linter.deprecated false
section
namespace Go.Abs
section
variable {C:Cx} {s:St} {a:Act} {w w':World} {E:Env} {P:Program} {all:Array Oper} {l:List Oper} {k:List KI} {o:Oper}
def setB (w:World) (r:Nat) (o:Obj):World:={ w with heap:=w.heap.setIfInBounds r o }
theorem setB_self {r:Nat} {x:Obj} (hb:w.heap[r]? = some x) (o:Obj):(setB w r o).heap[r]? = some o:=by
 simp [setB,(Array.getElem?_eq_some_iff.1 hb).1]
theorem setB_other {r b:Nat} (h:b≠r) (o:Obj):(setB w r o).heap[b]? = w.heap[b]?:=by
 simp [setB,Array.getElem?_setIfInBounds,Ne.symm h]
theorem keeps_setB {G:Pub} {r:Nat} (o:Obj) (hG:∀ x,¬ G r x):Keeps w G (setB w r o) G:=
 ⟨fun _ _ h=>h,fun b x g=>World.cell?_of_block (a:=⟨b,x,none⟩) (setB_other (r:=r) (b:=b) (fun e=>hG x (e ▸ g)) o),fun b x g=>setB_other (r:=r) (b:=b) (fun e=>hG x (e ▸ g)) o⟩
theorem Gam.remap (g:Gam C s a w E) (ms:List (Nat × AObj)) (hm:∀ b x,lk b ms=some x→ObjAt C w E.G b x):Gam C { s with maps:=ms } a w E where
 kept:=g.kept
 ghosts:=g.ghosts
 defers:=g.defers
 size:=g.size
 g0:=g.g0
 g1:=g.g1
 tab:=g.tab
 gw:=g.gw
 slots:=g.slots
 vars:=g.vars
 rows:=g.rows
 maps:=hm
 boxes:=g.boxes
 vv:=g.vv
 rr:=g.rr
 vr:=g.vr
 bb:=g.bb
 bv:=g.bv
 br:=g.br
 vfix:=g.vfix
 rfix:=g.rfix
 rnew:=g.rnew
theorem Gam.setB (g:Gam C s a w E) {r:Nat} {x:Obj} (hb:w.heap[r]? = some x) (hx:∀ c e f,x≠.cells c e f) (hG:∀ n,¬ E.G r n) (hw:C.w0.heap.size≤r∨C.mu r) (o':Obj) (ms:List (Nat × AObj))
  (hm:∀ b y,lk b ms=some y→ObjAt C (setB w r o') E.G b y):Gam C { s with maps:=ms } a (setB w r o') E:=by
 have hk:Keeps w E.G (Abs.setB w r o') E.G:=keeps_setB o' hG
 have mn:∀ b cur e,Mine C E.G w b cur e→Mine C E.G (Abs.setB w r o') b cur e:=fun b cur e m=>
  ⟨m.1,m.2.1,(setB_other (fun e=>by subst e; have:=m.2.2; rw [hb] at this; cases this; exact hx _ _ _ rfl) o').trans m.2.2⟩
 exact {
  kept:=⟨g.kept.os,g.kept.tape,g.kept.output,by simpa [Abs.setB] using g.kept.size,fun b hb' hn=>(setB_other (fun e=>by subst e; rcases hw with h | h; omega; exact hn h) o').trans (g.kept.block b hb' hn),g.kept.drawn⟩
  defers:=g.defers
  size:=g.size
  g0:=g.g0
  g1:=g.g1
  tab:=g.tab.keep hk
  gw:=fun b n h=>by simpa [Abs.setB] using g.gw b n h
  slots:=fun t=>(g.slots t).keep (E':=E) hk rfl rfl
  ghosts:=fun t=>(g.ghosts t).keep (E':=E) hk rfl rfl
  vars:=fun t cs h=>by
   obtain ⟨cur,e,m,hs,hr⟩:=g.vars t cs h
   exact ⟨cur,e,mn _ _ _ m,hs,fun j hj=>⟨(hr j hj).1,(hr j hj).2.keep (E':=E) hk rfl rfl⟩⟩
  rows:=fun i r h=>by
   rcases g.rows i r h with h | ⟨b,cap,cur,h1,m,h2,h3,h4,h5,h6⟩
   ·exact .inl h
   ·exact .inr ⟨b,cap,cur,h1,mn _ _ _ m,h2,h3,h4,h5,fun k j hk' hj=>(h6 k j hk' hj).keep hk⟩
  maps:=hm
  boxes:=fun t cs h=>by
   obtain ⟨h1,⟨e,m⟩,h2⟩:=g.boxes t cs h
   exact ⟨h1,⟨e,mn _ _ _ m⟩,h2⟩
  vv:=g.vv
  rr:=g.rr
  vr:=g.vr
  bb:=g.bb
  bv:=g.bv
  br:=g.br
  vfix:=g.vfix
  rfix:=g.rfix
  rnew:=g.rnew }
theorem ObjAt.other {r:Nat} {x o':Obj} (hb:w.heap[r]? = some x) (hG:∀ n,¬ E.G r n) {b:Nat} {y:AObj} (hbr:b≠r) (hit:∀ l c,y≠.it r l c) (h:ObjAt C w E.G b y):ObjAt C (setB w r o') E.G b y:=by
 cases y with
 | map m=>exact MapAt.keep (keeps_setB o' hG) h.1 (setB_other hbr o') h
 | it r' l' c=>
  obtain ⟨h0,since,last,clock,seen,es,h1,h2,h3⟩:=h
  exact ⟨h0,since,last,clock,seen,es,(setB_other hbr o').trans h1,(setB_other (fun e=>hit l' c (by rw [e])) o').trans h2,h3⟩
 | gone=>
  obtain ⟨h0,x,h1,h2⟩:=h
  exact ⟨by simpa [Abs.setB] using h0,x,(setB_other hbr o').trans h1,h2⟩
theorem MapAt.keys {G:Pub} {r clock:Nat} {es:Array MapEntry} {m:AMap} (hs:es.size=m.length) (h:∀ i,i<m.length→(es.getD i default).key=(m.getD i (undef,.tup [])).1):es.toList.map (·.key)=m.map (·.1):=by
 apply List.ext_getElem?
 intro i
 by_cases c:i<m.length
 ·have c2:i<es.size:=by omega
  have:=h i c
  simp only [Array.getD,c2,dif_pos,Array.getInternal_eq_getElem,List.getD_eq_getElem?_getD,List.getElem?_eq_getElem c,Option.getD_some] at this
  simp [c2,c,this]
 ·rw [List.getElem?_eq_none (by simp; omega),List.getElem?_eq_none (by simp; omega)]
theorem R.makeMap {t:TypeId} {d:Nat} (ho:o.op = .makeMap t none) (hg:o.guard=none) (hd:o.dst=some d) (hn:d<s.n)
  (next:∀ r,C.w0.heap.size≤r→s.map r=none→R C (.ops all l::k) (St.set { s with maps:=(r,.map [])::s.maps } d (.pd (.raw (.map (some r)))))):R C (.ops all (o::l)::k) s:=by
 intro a w E g
 refine wpList_plain hg fun K hK=>?_
 unfold Oper.wp execOp
 simp only [ho,Option.map_none,Sem.run_bind,Instr.makeMap,run_newObj,Result.andThen_ok,Sem.run_pure,Oper.upon_value]
 have hb:=below_alloc w (.map #[] 0)
 have g1:=g.grow (w':=w.alloc (.map #[] 0)) hb E.G (fun _ _ h=>h) (fun _ _ h=>.inl h)
 have hnone:s.map w.heap.size=none:=by
  cases h:s.map w.heap.size with
  | none=>rfl
  | some x=>have:=(g.maps _ _ h).lt; omega
 have g2:=g1.remap ((w.heap.size,.map [])::s.maps) (fun b x h=>by
  simp only [lk] at h
  split at h
  ·rename_i e; cases h; subst e
   refine ⟨fun n hn=>?_,#[],0,heap_alloc_new w _,rfl,fun i hi=>by simp at hi,fun i j _ hj=>by simp at hj,fun i hi=>by simp at hi,by simp⟩
   have:=g.gw _ _ hn; omega
  ·exact g1.maps b x h)
 rw [hd]
 exact hK _ _ (next _ g.kept.size hnone _ _ _ (g2.put hn (.raw _ rfl) (by simp)))
theorem R.lookM {t kt e:TypeId} {td:TypeDesc} {x kx:Operand} {ok:Bool} {r:Nat} {m:AMap} {key:Value} {d:PD} {fd:Bool} (ho:o.op = .lookup t x kx ok) (hg:o.guard=none) (hd:dstOk s o) (hx:evO s x = .pd (.raw (.map (some r)))) (hm:s.map r=some (.map m))
  (hk:evO s kx = .pd (.raw key)) (ht:mpT C.P t=some (kt,td,e)) (h:lookD C.P e td key (m.map (·.1)) (m.map (·.2)) fd d)
  (next:R C (.ops all l::k) (s.put o.dst (if ok then .tpl [d,.raw (.bool fd)] else .pd d))):R C (.ops all (o::l)::k) s:=by
 intro a w E g
 refine wpList_plain hg fun K hK=>?_
 have h1:=evO_ok g x; have h2:=evO_ok g kx
 rw [hx] at h1; rw [hk] at h2
 have h1:=RdV.raw_eq h1; have h2:=RdV.raw_eq h2
 obtain ⟨_,es,clock,hb,hs,hread,_⟩:=g.maps r _ hm
 obtain ⟨u,hu1,hu2⟩:=lookup_ok (P:=C.P) (w:=w) (G:=E.G) (ks:=m.map (·.1)) (ds:=m.map (·.2)) ht hb (by simpa using hs) (fun i hi=>by
  simp only [List.length_map] at hi
  rw [(hread i hi).1]; simp [List.getD_eq_getElem?_getD,hi]) (fun i hi=>by
  simp only [List.length_map] at hi
  have:=(hread i hi).2
  simpa [List.getD_eq_getElem?_getD,hi] using this) h ok
 unfold Oper.wp execOp
 simp only [ho,h1,h2,Sem.run_bind,hu1,Result.andThen_ok,Sem.run_pure,Oper.upon_value]
 refine hK _ _ (next _ _ _ (g.putO hd ?_ (by cases ok <;> simp)))
 cases ok with
 | false=>exact hu2
 | true=>
  refine ⟨#[u,.bool fd],rfl,rfl,fun j hj=>?_⟩
  match j,hj with
  | 0,_=>exact hu2
  | 1,_=>exact .raw _ rfl
theorem R.updOld {t kt e:TypeId} {td:TypeDesc} {x kx vx:Operand} {r i:Nat} {m:AMap} {key:Value} {d:PD} (ho:o.op = .mapUpdate t x kx vx∨o.op = .insert t x kx vx) (hg:o.guard=none) (hd:dstOk s o) (hx:evO s x = .pd (.raw (.map (some r)))) (hm:s.map r=some (.map m))
  (hk:evO s kx = .pd (.raw key)) (hv:evO s vx = .pd d) (ht:mpT C.P t=some (kt,td,e)) (hkk:keyOk td key=true) (hks:∀ p∈m,keyOk td p.1=true) (hw:C.w0.heap.size≤r∨C.mu r) (hi:i<m.length) (hik:(m.getD i (undef,.tup [])).1=key)
  (next:R C (.ops all l::k) (St.put { s with maps:=up r (.map (m.set i (key,d))) s.maps } o.dst .dead)):R C (.ops all (o::l)::k) s:=by
 intro a w E g
 refine wpList_plain hg fun K hK=>?_
 have h1:=evO_ok g x; have h2:=evO_ok g kx; have h3:=evO_ok g vx
 rw [hx] at h1; rw [hk] at h2; rw [hv] at h3
 have h1:=RdV.raw_eq h1; have h2:=RdV.raw_eq h2
 obtain ⟨hG,es,clock,hb,hs,hread,hborn,hclock,hnd⟩:=g.maps r _ hm
 obtain ⟨hu,huk⟩:=und_mpT ht
 have hkeys:=MapAt.keys (G:=E.G) (r:=r) (clock:=clock) hs (fun i hi=>(hread i hi).1)
 have hi2:i<es.size:=by omega
 have e1:es.getD i default=es[i]:=by simp [Array.getD,hi2]
 have hkey:es[i].key=key:=by rw [← e1,(hread i hi).1,hik]
 have hf:=findNow_some hkk es.toList 0 i (fun x hx=>by
  have:x.key∈es.toList.map (·.key):=List.mem_map.2 ⟨x,hx,rfl⟩
  rw [hkeys] at this
  obtain ⟨p,hp,he⟩:=List.mem_map.1 this
  rw [← he]; exact hks p hp) (by rw [hkeys]; exact hnd) (by simpa using hi2) (by simpa using hkey)
 have hkeep:(Instr.keyThatStays key key).run C.P w = .ok key w:=by
  have:Instr.sameBits 10000 key key=true:=by
   unfold keyOk at hkk
   split at hkk
   ·rw [Instr.sameBits]; simp
   ·rw [Instr.sameBits,beq_toListBytes]; simp
   ·cases hkk
  simp [Instr.keyThatStays,this]
 have hrun:(Instr.mapUpdate t (.map (some r)) key (a.eval vx)).run C.P w = .ok () (setB w r (.map (es.modify i fun e=>{ e with key:=key,val:=a.eval vx }) clock)):=by
  simp only [Instr.mapUpdate,Sem.run_bind,run_underlying hu,Result.andThen_ok,run_gmap hb,run_checkKey huk hkk,run_findKey huk hf,Nat.zero_add]
  simp only [Array.getElem?_eq_getElem hi2,Option.map_some,Option.getD_some,hkey,hkeep,Result.andThen_ok,run_sobj _ hb (by intros; simp),setB]
 have hexec:(execOp a.eval o).run C.P w = .ok .skip (setB w r (.map (es.modify i fun e=>{ e with key:=key,val:=a.eval vx }) clock)):=by
  rcases ho with ho | ho
  ·unfold execOp; simp only [ho,h1,h2,Sem.run_bind,hrun,Result.andThen_ok,Sem.run_pure]
  ·unfold execOp; simp only [ho,h1,h2,Sem.run_bind,hrun,Result.andThen_ok,Sem.run_pure]
 unfold Oper.wp
 rw [hexec,Oper.upon_skip]
 have hkp:Keeps w E.G (setB w r (.map (es.modify i fun e=>{ e with key:=key,val:=a.eval vx }) clock)) E.G:=keeps_setB _ hG
 have hget:∀ j,(es.modify i fun e=>{ e with key:=key,val:=a.eval vx }).getD j default=if j=i then { es[i] with key:=key,val:=a.eval vx } else es.getD j default:=by
  intro j
  by_cases c:j<es.size
  ·simp only [Array.getD,Array.size_modify,c,dif_pos,Array.getInternal_eq_getElem,Array.getElem_modify]
   by_cases e:i=j
   ·subst e; simp
   ·simp [e,Ne.symm e]
  ·rw [if_neg (by omega)]
   simp [Array.getD,c]
 have g':=g.setB hb (by intros; simp) hG hw (.map (es.modify i fun e=>{ e with key:=key,val:=a.eval vx }) clock) (up r (.map (m.set i (key,d))) s.maps) (fun b y hy=>by
  rw [lk_up] at hy
  split at hy
  ·rename_i e; cases hy; subst e
   refine ⟨hG,_,clock,setB_self hb _,by simp [hs],fun j hj=>?_,fun j j' hj hj'=>?_,fun j hj=>?_,?_⟩
   ·simp only [List.length_set] at hj
    rw [hget]
    by_cases c:j=i
    ·subst c; rw [if_pos rfl]; simp only [List.getD_eq_getElem?_getD,List.getElem?_set_self hi,Option.getD_some]
     exact ⟨trivial,RdV.keep hkp h3⟩
    ·rw [if_neg c]
     simp only [List.getD_eq_getElem?_getD,List.getElem?_set_ne (Ne.symm c)]
     have:=hread j hj
     simp only [List.getD_eq_getElem?_getD] at this
     exact ⟨this.1,this.2.keep hkp⟩
   ·have hb2:∀ j,((es.modify i fun e=>{ e with key:=key,val:=a.eval vx }).getD j default).born=(es.getD j default).born:=fun j=>by
     rw [hget]; split
     ·rename_i e; subst e; rw [e1]
     ·rfl
    rw [hb2,hb2]; exact hborn j j' hj (by simpa using hj')
   ·have hb2:((es.modify i fun e=>{ e with key:=key,val:=a.eval vx }).getD j default).born=(es.getD j default).born:=by
     rw [hget]; split
     ·rename_i e; subst e; rw [e1]
     ·rfl
    rw [hb2]; exact hclock j (by simpa using hj)
   ·have:(m.set i (key,d)).map (·.1)=m.map (·.1):=by
     rw [List.map_set]
     apply List.ext_getElem?
     intro j
     by_cases c:i=j
     ·subst c
      rw [List.getElem?_set_self (by simpa using hi)]
      simp only [List.getElem?_map,List.getElem?_eq_getElem hi,Option.map_some]
      simp only [List.getD_eq_getElem?_getD,List.getElem?_eq_getElem hi,Option.getD_some] at hik
      rw [hik]
     ·rw [List.getElem?_set_ne c]
    rw [this]; exact hnd
  ·rename_i hbr
   cases y with
   | map m'=>exact ObjAt.other hb hG hbr (by intros; simp) (g.maps b _ hy)
   | gone=>exact ObjAt.other hb hG hbr (by intros; simp) (g.maps b _ hy)
   | it r' l' c=>
    by_cases e:r'=r
    ·subst e
     obtain ⟨h0,since,last,clock',seen,es',i1,i2,i3,i4,i5,i6⟩:=g.maps b _ hy
     rw [hb] at i2; cases i2
     have hkb:((es.modify i fun e=>{ e with key:=key,val:=a.eval vx }).toList.map fun e=>(e.key,e.born))=es.toList.map fun e=>(e.key,e.born):=by
      apply List.ext_getElem?
      intro j
      simp only [List.getElem?_map,Array.getElem?_toList,Array.getElem?_modify]
      by_cases c:i=j
      ·subst c; simp [hi2,hkey]
      ·simp [c]
     exact ⟨h0,since,last,clock,seen,_,(setB_other hbr _).trans i1,setB_self hb _,i3,i4,by rw [hkb]; exact i5,by rw [hkb]; exact i6⟩
    ·exact ObjAt.other hb hG hbr (by intro l c h; cases h; exact e rfl) (g.maps b _ hy))
 exact hK _ _ (next _ _ _ (g'.putO hd trivial (by simp)))
end
end Go.Abs
end
section
namespace Go.Abs
section
variable {C:Cx} {s:St} {a:Act} {w w':World} {E:Env} {P:Program} {all:Array Oper} {l:List Oper} {k:List KI} {o:Oper}
def AObj.noIt (r:Nat):AObj→AObj
 | .it r' l c=>if r'=r then .gone else .it r' l c
 | x=>x
def noIt (r:Nat) (ms:List (Nat × AObj)):List (Nat × AObj):=ms.map fun p=>(p.1,p.2.noIt r)
theorem ObjAt.gone {G:Pub} {b:Nat} {x:AObj} (h:ObjAt C w G b x):∃ y,w.heap[b]? = some y∧∀ cs e d,y≠.cells cs e d:=by
 cases x with
 | map m=>obtain ⟨_,es,clock,h1,_⟩:=h; exact ⟨_,h1,by intros; simp⟩
 | it r l c=>obtain ⟨_,_,_,_,_,_,h1,_⟩:=h; exact ⟨_,h1,by intros; simp⟩
 | gone=>exact h.2
theorem ObjAt.noIt {G:Pub} {b r:Nat} {x:AObj} (h:ObjAt C w G b x):ObjAt C w G b (x.noIt r)∧∀ l c,x.noIt r≠.it r l c:=by
 cases x with
 | map m=>exact ⟨h,by intros; simp [AObj.noIt]⟩
 | gone=>exact ⟨h,by intros; simp [AObj.noIt]⟩
 | it r' l c=>
  simp only [AObj.noIt]
  split
  ·exact ⟨⟨h.lt,ObjAt.gone (x:=.it r' l c) h⟩,by intros; simp⟩
  ·rename_i e; exact ⟨h,by intro l c h; cases h; exact e rfl⟩
theorem R.updNew {t kt e:TypeId} {td:TypeDesc} {x kx vx:Operand} {r:Nat} {m:AMap} {key:Value} {d:PD} (ho:o.op = .mapUpdate t x kx vx∨o.op = .insert t x kx vx) (hg:o.guard=none) (hd:dstOk s o) (hx:evO s x = .pd (.raw (.map (some r)))) (hm:s.map r=some (.map m))
  (hk:evO s kx = .pd (.raw key)) (hv:evO s vx = .pd d) (ht:mpT C.P t=some (kt,td,e)) (hkk:keyOk td key=true) (hks:∀ p∈m,keyOk td p.1=true∧p.1≠key) (hw:C.w0.heap.size≤r∨C.mu r)
  (next:R C (.ops all l::k) (St.put { s with maps:=up r (.map (m++[(key,d)])) (noIt r s.maps) } o.dst .dead)):R C (.ops all (o::l)::k) s:=by
 intro a w E g
 refine wpList_plain hg fun K hK=>?_
 have h1:=evO_ok g x; have h2:=evO_ok g kx; have h3:=evO_ok g vx
 rw [hx] at h1; rw [hk] at h2; rw [hv] at h3
 have h1:=RdV.raw_eq h1; have h2:=RdV.raw_eq h2
 obtain ⟨hG,es,clock,hb,hs,hread,hborn,hclock,hnd⟩:=g.maps r _ hm
 obtain ⟨hu,huk⟩:=und_mpT ht
 have hkeys:=MapAt.keys (G:=E.G) (r:=r) (clock:=clock) hs (fun i hi=>(hread i hi).1)
 have hf:=findNow_none hkk es.toList 0 (fun x hx=>by
  have:x.key∈es.toList.map (·.key):=List.mem_map.2 ⟨x,hx,rfl⟩
  rw [hkeys] at this
  obtain ⟨p,hp,he⟩:=List.mem_map.1 this
  rw [← he]; exact hks p hp)
 have hrun:(Instr.mapUpdate t (.map (some r)) key (a.eval vx)).run C.P w = .ok () (setB w r (.map (es.push { key:=key,val:=a.eval vx,born:=clock }) (clock+1))):=by
  simp only [Instr.mapUpdate,Sem.run_bind,run_underlying hu,Result.andThen_ok,run_gmap hb,run_checkKey huk hkk,run_findKey huk hf,run_sobj _ hb (by intros; simp),setB]
 have hexec:(execOp a.eval o).run C.P w = .ok .skip (setB w r (.map (es.push { key:=key,val:=a.eval vx,born:=clock }) (clock+1))):=by
  rcases ho with ho | ho
  ·unfold execOp; simp only [ho,h1,h2,Sem.run_bind,hrun,Result.andThen_ok,Sem.run_pure]
  ·unfold execOp; simp only [ho,h1,h2,Sem.run_bind,hrun,Result.andThen_ok,Sem.run_pure]
 unfold Oper.wp
 rw [hexec,Oper.upon_skip]
 have hkp:Keeps w E.G (setB w r (.map (es.push { key:=key,val:=a.eval vx,born:=clock }) (clock+1))) E.G:=keeps_setB _ hG
 have hget:∀ j,j≤es.size→(es.push { key:=key,val:=a.eval vx,born:=clock }).getD j default=if j=es.size then { key:=key,val:=a.eval vx,born:=clock } else es.getD j default:=by
  intro j hj
  by_cases c:j=es.size
  ·subst c; simp [Array.getD]
  ·have hj2:j<es.size:=by omega
   rw [if_neg c]
   simp [Array.getD,hj2,Array.getElem_push,Nat.lt_succ_of_lt hj2]
 have g':=g.setB hb (by intros; simp) hG hw (.map (es.push { key:=key,val:=a.eval vx,born:=clock }) (clock+1)) (up r (.map (m++[(key,d)])) (noIt r s.maps)) (fun b y hy=>by
  rw [lk_up] at hy
  split at hy
  ·rename_i e; cases hy; subst e
   refine ⟨hG,_,clock+1,setB_self hb _,by simp [hs],fun j hj=>?_,fun j j' hj hj'=>?_,fun j hj=>?_,?_⟩
   ·simp only [List.length_append,List.length_singleton] at hj
    rw [hget j (by omega)]
    by_cases c:j=es.size
    ·rw [if_pos c]
     have:(m++[(key,d)]).getD j (undef,.tup [])=(key,d):=by rw [c,hs]; simp [List.getD_eq_getElem?_getD]
     rw [this]
     exact ⟨rfl,RdV.keep hkp h3⟩
    ·rw [if_neg c]
     have hj2:j<m.length:=by omega
     have:(m++[(key,d)]).getD j (undef,.tup [])=m.getD j (undef,.tup []):=by simp [List.getD_eq_getElem?_getD,List.getElem?_append_left hj2]
     rw [this]
     exact ⟨(hread j hj2).1,(hread j hj2).2.keep hkp⟩
   ·simp only [Array.size_push] at hj'
    rw [hget j (by omega),hget j' (by omega),if_neg (by omega)]
    by_cases c:j'=es.size
    ·rw [if_pos c]; exact hclock j (by omega)
    ·rw [if_neg c]; exact hborn j j' hj (by omega)
   ·simp only [Array.size_push] at hj
    rw [hget j (by omega)]
    by_cases c:j=es.size
    ·rw [if_pos c]; simp
    ·rw [if_neg c]; have:=hclock j (by omega); omega
   ·rw [List.map_append,List.nodup_append]
    refine ⟨hnd,by simp,fun x hx y hy=>?_⟩
    simp only [List.map_cons,List.map_nil,List.mem_singleton] at hy
    subst hy
    obtain ⟨p,hp,rfl⟩:=List.mem_map.1 hx
    exact (hks p hp).2
  ·rename_i hbr
   simp only [noIt,lk_map] at hy
   cases h0:lk b s.maps with
   | none=>simp [h0] at hy
   | some y0=>
    simp [h0] at hy; subst hy
    obtain ⟨hy1,hy2⟩:=(g.maps b _ h0).noIt (r:=r)
    exact ObjAt.other hb hG hbr hy2 hy1)
 exact hK _ _ (next _ _ _ (g'.putO hd trivial (by simp)))
theorem map_eraseIdx' {α β:Type} (f:α→β):∀ (l:List α) (i:Nat),(l.eraseIdx i).map f=(l.map f).eraseIdx i
 | [],_=>rfl
 | _::_,0=>rfl
 | x::l,i+1=>by simp [List.eraseIdx_cons_succ,map_eraseIdx' f l i]
def atNone (r:Nat):AObj→AObj
 | .it r' l c=>if r'=r then .it r' l none else .it r' l c
 | x=>x
theorem R.delM {t kt e:TypeId} {td:TypeDesc} {x kx:Operand} {r i:Nat} {m:AMap} {key:Value} {ts:Array TypeId} (ho:o.op = .call ⟨.builtin .delete,#[x,kx],ts⟩) (hts:ts[0]? = some t) (hg:o.guard=none) (hd:dstOk s o) (hx:evO s x = .pd (.raw (.map (some r)))) (hm:s.map r=some (.map m))
  (hk:evO s kx = .pd (.raw key)) (ht:mpT C.P t=some (kt,td,e)) (hkk:keyOk td key=true) (hks:∀ p∈m,keyOk td p.1=true) (hw:C.w0.heap.size≤r∨C.mu r) (hi:i<m.length) (hik:(m.getD i (undef,.tup [])).1=key)
  (hit:∀ b left cur,s.map b=some (.it r left cur)→key∉left)
  (next:R C (.ops all l::k) (St.put { s with maps:=up r (.map (m.eraseIdx i)) (s.maps.map fun p=>(p.1,atNone r p.2)) } o.dst .dead)):R C (.ops all (o::l)::k) s:=by
 intro a w E g
 refine wpList_plain hg fun K hK=>?_
 have h1:=evO_ok g x; have h2:=evO_ok g kx
 rw [hx] at h1; rw [hk] at h2
 have h1:=RdV.raw_eq h1; have h2:=RdV.raw_eq h2
 obtain ⟨hG,es,clock,hb,hs,hread,hborn,hclock,hnd⟩:=g.maps r _ hm
 obtain ⟨hu,huk⟩:=und_mpT ht
 have hkeys:=MapAt.keys (G:=E.G) (r:=r) (clock:=clock) hs (fun i hi=>(hread i hi).1)
 have hi2:i<es.size:=by omega
 have e1:es.getD i default=es[i]:=by simp [Array.getD,hi2]
 have hkey:es[i].key=key:=by rw [← e1,(hread i hi).1,hik]
 have hf:=findNow_some hkk es.toList 0 i (fun x hx=>by
  have:x.key∈es.toList.map (·.key):=List.mem_map.2 ⟨x,hx,rfl⟩
  rw [hkeys] at this
  obtain ⟨p,hp,he⟩:=List.mem_map.1 this
  rw [← he]; exact hks p hp) (by rw [hkeys]; exact hnd) (by simpa using hi2) (by simpa using hkey)
 have hlist:(es.eraseIdxIfInBounds i).toList=es.toList.eraseIdx i:=by simp [Array.eraseIdxIfInBounds,hi2]
 have hsz:(es.eraseIdxIfInBounds i).size=es.size - 1:=by simp [Array.eraseIdxIfInBounds,hi2]
 have hrun:(Builtin.delete_ ts o.type #[.map (some r),key]).run C.P w = .ok (.tuple #[]) (setB w r (.map (es.eraseIdxIfInBounds i) clock)):=by
  simp only [Builtin.delete_,hts,List.getElem?_toArray,List.getElem?_cons_zero,List.getElem?_cons_succ,Sem.run_bind,run_underlying hu,Result.andThen_ok,run_gmap hb,run_checkKey huk hkk,run_findKey huk hf,Nat.zero_add,run_sobj _ hb (by intros; simp),Sem.run_pure,setB]
 unfold Oper.wp execOp
 simp only [ho,resolve,Sem.run_bind,Sem.run_pure,Result.andThen_ok,invoke,builtin,List.map_toArray,List.map_cons,List.map_nil,h1,h2,hrun,Oper.upon_value]
 have hkp:Keeps w E.G (setB w r (.map (es.eraseIdxIfInBounds i) clock)) E.G:=keeps_setB _ hG
 have hget:∀ j,j<es.size - 1→(es.eraseIdxIfInBounds i).getD j default=if j<i then es.getD j default else es.getD (j+1) default:=by
  intro j hj
  have:(es.eraseIdxIfInBounds i).getD j default=(es.toList.eraseIdx i).getD j default:=by
   rw [← hlist,Array.getD_eq_getD_getElem?,List.getD_eq_getElem?_getD,Array.getElem?_toList]
  rw [this,List.getD_eq_getElem?_getD,List.getElem?_eraseIdx]
  split <;> simp [Array.getD_eq_getD_getElem?]
 have hmget:∀ j,(m.eraseIdx i).getD j (undef,.tup [])=if j<i then m.getD j (undef,.tup []) else m.getD (j+1) (undef,.tup []):=by
  intro j
  rw [List.getD_eq_getElem?_getD,List.getElem?_eraseIdx]
  split <;> simp [List.getD_eq_getElem?_getD]
 have hml:(m.eraseIdx i).length=m.length - 1:=List.length_eraseIdx_of_lt hi
 have g':=g.setB hb (by intros; simp) hG hw (.map (es.eraseIdxIfInBounds i) clock) (up r (.map (m.eraseIdx i)) (s.maps.map fun p=>(p.1,atNone r p.2))) (fun b y hy=>by
  rw [lk_up] at hy
  split at hy
  ·rename_i e; cases hy; subst e
   refine ⟨hG,_,clock,setB_self hb _,by rw [hsz,hml,hs],fun j hj=>?_,fun j j' hj hj'=>?_,fun j hj=>?_,?_⟩
   ·rw [hml] at hj
    rw [hget j (by omega),hmget]
    split
    ·exact ⟨(hread j (by omega)).1,(hread j (by omega)).2.keep hkp⟩
    ·exact ⟨(hread (j+1) (by omega)).1,(hread (j+1) (by omega)).2.keep hkp⟩
   ·rw [hsz] at hj'
    rw [hget j (by omega),hget j' (by omega)]
    split <;> split <;> first | exact hborn _ _ (by omega) (by omega) | omega
   ·rw [hsz] at hj
    rw [hget j (by omega)]
    split <;> exact hclock _ (by omega)
   ·rw [map_eraseIdx']; exact hnd.sublist (List.eraseIdx_sublist _ _)
  ·rename_i hbr
   rw [lk_map] at hy
   cases h0:lk b s.maps with
   | none=>simp [h0] at hy
   | some y0=>
    simp [h0] at hy; subst hy
    cases y0 with
    | map m'=>exact ObjAt.other hb hG hbr (by intros; simp [atNone]) (g.maps b _ h0)
    | gone=>exact ObjAt.other hb hG hbr (by intros; simp [atNone]) (g.maps b _ h0)
    | it r' l' c=>
     by_cases e:r'=r
     ·subst e
      obtain ⟨hq0,since,last,clock',seen,es',i1,i2,i3,i4,i5,i6⟩:=g.maps b _ h0
      rw [hb] at i2; cases i2
      simp only [atNone,if_true]
      refine ⟨hq0,since,last,clock,seen,_,(setB_other hbr _).trans i1,setB_self hb _,i3,i4,?_,by intro k hk; cases hk⟩
      have hnot:key∉l':=hit b l' c h0
      rw [← i5] at hnot ⊢
      rw [hlist,map_eraseIdx']
      have hseen:seen.contains es[i].born=true:=by
       cases hc:seen.contains es[i].born with
       | true=>rfl
       | false=>
        refine (hnot (List.mem_map.2 ⟨(es[i].key,es[i].born),List.mem_filter.2 ⟨List.mem_map.2 ⟨es[i],by simp,rfl⟩,by simp only [hc]; rfl⟩,hkey⟩)).elim
      congr 1
      have hlen:i<(es.toList.map fun e=>(e.key,e.born)).length:=by simpa using hi2
      rw [List.eraseIdx_eq_take_drop_succ,List.filter_append]
      conv=>rhs; rw [← List.take_append_drop i (es.toList.map fun e=>(e.key,e.born)),List.filter_append,List.drop_eq_getElem_cons hlen,List.filter_cons]
      simp
      exact Array.contains_iff.1 hseen
     ·exact ObjAt.other hb hG hbr (by intro l c h; simp only [atNone,if_neg e] at h; cases h; exact e rfl) (by simp only [atNone,if_neg e]; exact g.maps b _ h0))
 exact hK _ _ (next _ _ _ (g'.putO hd trivial (by simp)))
theorem R.lenM {t:TypeId} {x:Operand} {r:Nat} {m:AMap} {ts:Array TypeId} (ho:o.op = .call ⟨.builtin .len,#[x],ts⟩) (hts:ts[0]? = some t) (hg:o.guard=none) (hd:dstOk s o) (hx:evO s x = .pd (.raw (.map (some r)))) (hm:s.map r=some (.map m)) (ht:(mpT C.P t).isSome=true)
  (next:R C (.ops all l::k) (s.put o.dst (.pd (.raw (.int .i64 m.length))))):R C (.ops all (o::l)::k) s:=by
 intro a w E g
 refine wpList_plain hg fun K hK=>?_
 have h1:=evO_ok g x
 rw [hx] at h1
 have h1:=RdV.raw_eq h1
 obtain ⟨hG,es,clock,hb,hs,_⟩:=g.maps r _ hm
 obtain ⟨⟨kt,td,e⟩,ht⟩:=Option.isSome_iff_exists.1 ht
 obtain ⟨hu,huk⟩:=und_mpT ht
 unfold Oper.wp execOp
 have hrun:(Builtin.len_ ts o.type #[.map (some r)]).run C.P w = .ok (.int .i64 m.length) w:=by
  simp [Builtin.len_,hts,run_underlying hu,run_gmap hb,hs,goInt]
 simp only [ho,resolve,Sem.run_bind,Sem.run_pure,Result.andThen_ok,invoke,builtin,List.map_toArray,List.map_cons,List.map_nil,h1,hrun,Oper.upon_value]
 exact hK _ _ (next _ _ _ (g.putO hd (.raw _ rfl) (by simp)))
end
end Go.Abs
end
section
namespace Go.Abs
section
variable {C:Cx} {s:St} {a:Act} {w w':World} {E:Env} {P:Program} {all:Array Oper} {l:List Oper} {k:List KI} {o:Oper}
theorem R.range {t:TypeId} {x:Operand} {d r:Nat} {m:AMap} (ho:o.op = .range t x) (hg:o.guard=none) (hd:o.dst=some d) (hn:d<s.n) (hx:evO s x = .pd (.raw (.map (some r)))) (hm:s.map r=some (.map m)) (ht:(mpT C.P t).isSome=true)
  (next:∀ b,b≠r→s.map b=none→R C (.ops all l::k) (St.set { s with maps:=(b,.it r (m.map (·.1)) none)::s.maps } d (.pd (.raw (.pointer (some ⟨b,0,none⟩)))))):R C (.ops all (o::l)::k) s:=by
 intro a w E g
 refine wpList_plain hg fun K hK=>?_
 have h1:=evO_ok g x
 rw [hx] at h1
 have h1:=RdV.raw_eq h1
 obtain ⟨hG,es,clock,hb,hs,hread,hborn,hclock,hnd⟩:=g.maps r _ hm
 obtain ⟨⟨kt,td,e⟩,ht⟩:=Option.isSome_iff_exists.1 ht
 obtain ⟨hu,huk⟩:=und_mpT ht
 have hkeys:=MapAt.keys (G:=E.G) (r:=r) (clock:=clock) hs (fun i hi=>(hread i hi).1)
 have hrun:(Instr.range t (.map (some r))).run C.P w = .ok (.pointer (some ⟨w.heap.size,0,none⟩)) (w.alloc (.mapIter (some r) clock #[] clock)):=by
  simp only [Instr.range,Sem.run_bind,run_underlying hu,Result.andThen_ok,run_gmap hb,Sem.run_pure,run_newObj]; rfl
 unfold Oper.wp execOp
 simp only [ho,h1,Sem.run_bind,hrun,Result.andThen_ok,Sem.run_pure,Oper.upon_value]
 have hbl:=below_alloc w (.mapIter (some r) clock #[] clock)
 have g1:=g.grow (w':=w.alloc (.mapIter (some r) clock #[] clock)) hbl E.G (fun _ _ h=>h) (fun _ _ h=>.inl h)
 have hnone:s.map w.heap.size=none:=by
  cases h:s.map w.heap.size with
  | none=>rfl
  | some x=>have:=(g.maps _ _ h).lt; omega
 have hrl:r<w.heap.size:=(Array.getElem?_eq_some_iff.1 hb).1
 have g2:=g1.remap ((w.heap.size,.it r (m.map (·.1)) none)::s.maps) (fun b x h=>by
  simp only [lk] at h
  split at h
  ·rename_i e; cases h; subst e
   refine ⟨⟨g.kept.size,fun n hn=>by have:=g.gw _ _ hn; omega⟩,clock,clock,clock,#[],es,heap_alloc_new w _,?_,rfl,rfl,?_,by intro k hk; cases hk⟩
   ·rw [hbl.block r hrl]; exact hb
   ·rw [← hkeys]
    rw [List.filter_eq_self.2 (by simp)]
    simp [Function.comp_def]
  ·exact g1.maps b x h)
 rw [hd]
 exact hK _ _ (next _ (by omega) hnone _ _ _ (g2.put hn (.raw _ rfl) (by simp)))
theorem split_filter {p:Value × Nat}:∀ {L:List (Value × Nat)},(L.map (·.2)).Nodup→p∈L→∃ A B,L=A++p::B∧(L.filter fun q=>q.2 != p.2)=A++B:=by
 intro L hn hp
 obtain ⟨A,B,rfl⟩:=List.append_of_mem hp
 refine ⟨A,B,rfl,?_⟩
 simp only [List.map_append,List.map_cons,List.nodup_append,List.nodup_cons] at hn
 obtain ⟨_,⟨hB,_⟩,hAB⟩:=hn
 rw [List.filter_append,List.filter_cons]
 have h1:(A.filter fun q=>q.2 != p.2)=A:=List.filter_eq_self.2 fun q hq=>by
  have:=hAB q.2 (List.mem_map.2 ⟨q,hq,rfl⟩) p.2 (by simp)
  simpa using this
 have h2:(B.filter fun q=>q.2 != p.2)=B:=List.filter_eq_self.2 fun q hq=>by
  simp only [bne_iff_ne,ne_eq]
  intro e
  exact hB (List.mem_map.2 ⟨q,hq,e⟩)
 rw [h1,h2]; simp
theorem born_nodup {es:Array MapEntry} (h:∀ i j,i<j→j<es.size→(es.getD i default).born<(es.getD j default).born):(es.toList.map (·.born)).Nodup:=by
 rw [List.nodup_iff_pairwise_ne,List.pairwise_iff_getElem]
 intro i j hi hj hij
 simp only [List.length_map,Array.length_toList] at hi hj
 have:=h i j hij hj
 simp only [Array.getD,hi,hj,dif_pos,Array.getInternal_eq_getElem] at this
 simp only [List.getElem_map,Array.getElem_toList,ne_eq]
 omega
theorem R.next {x:Operand} {b r:Nat} {m:AMap} {left:List Value} {cur:Option Value} (ho:o.op = .next x false) (hg:o.guard=none) (hd:dstOk s o) (hx:evO s x = .pd (.raw (.pointer (some ⟨b,0,none⟩)))) (hit:s.map b=some (.it r left cur)) (hm:s.map r=some (.map m)) (hone:∀ p∈m,p.1.oneCell'=true)
  (over:left=[]→R C (.ops all l::k) (s.put o.dst (.tpl [.raw (.bool false)])))
  (step:∀ l1 key l2 i,left=l1++key::l2→i<m.length→(m.getD i (undef,.tup [])).1=key→R C (.ops all l::k) (St.put { s with maps:=up b (.it r (l1++l2) (some key)) s.maps } o.dst (.tpl [.raw (.bool true),.raw key,(m.getD i (undef,.tup [])).2]))):
  R C (.ops all (o::l)::k) s:=by
 intro a w E g
 refine wpList_plain hg fun K hK=>?_
 have h1:=evO_ok g x
 rw [hx] at h1
 have h1:=RdV.raw_eq h1
 obtain ⟨hG,es,clock,hb,hs,hread,hborn,hclock,hnd⟩:=g.maps r _ hm
 obtain ⟨hb0,since,last,clock',seen,es',i1,i2,i3,i4,i5,i6⟩:=g.maps b _ hit
 rw [hb] at i2; cases i2
 subst i3; subst i4
 have hbr:r≠b:=by intro e; subst e; rw [hb] at i1; cases i1
 have hGb:∀ n,¬ E.G b n∨True:=fun _=>.inr trivial
 have hmem:∀ e∈es.toList,∃ i,∃ h:i<es.size,es[i]=e:=fun e he=>by
  obtain ⟨i,hi,rfl⟩:=List.getElem_of_mem he
  exact ⟨i,by simpa using hi,by simp⟩
 have hold:∀ e∈es.toList,e.born<last:=fun e he=>by
  obtain ⟨i,hi,rfl⟩:=hmem e he
  have:=hclock i hi
  simpa [Array.getD,hi] using this
 unfold Oper.wp execOp
 simp only [ho,h1,Sem.run_bind]
 rcases run_next_at (P:=C.P) w o.type b r last last seen es last i1 hb hold (Nat.le_refl _) with ⟨h0,hrun⟩ | ⟨e,he,w1,hal,hrun⟩
 ·rw [hrun]
  simp only [Result.andThen_ok,Sem.run_pure,Oper.upon_value]
  refine hK _ _ (over ?_ _ _ _ (g.putO hd ⟨#[.bool false],rfl,rfl,fun j hj=>?_⟩ (by simp)))
  ·rw [← i5]
   have hem:(leftOf es seen).toList=[]:=by rw [List.eq_nil_iff_length_eq_zero]; simpa using h0
   unfold leftOf at hem
   rw [Array.toList_filter] at hem
   rw [List.map_eq_nil_iff,List.filter_eq_nil_iff]
   rw [List.filter_eq_nil_iff] at hem
   intro p hp
   obtain ⟨e,he,rfl⟩:=List.mem_map.1 hp
   exact hem e he
  ·match j,hj with
   | 0,_=>exact .raw _ rfl
 ·have hel:e∈es.toList∧seen.contains e.born=false:=by
   unfold leftOf at he
   rw [Array.toList_filter] at he
   simpa using he
  obtain ⟨i,hi,rfl⟩:=hmem e hel.1
  have him:i<m.length:=by omega
  have hrd:=hread i him
  have e1:es.getD i default=es[i]:=by simp [Array.getD,hi]
  rw [e1] at hrd
  have hkb:((es.toList.map fun e=>(e.key,e.born)).map (·.2)).Nodup:=by
   rw [List.map_map]; exact born_nodup hborn
  obtain ⟨A,B,hAB,hfil⟩:=split_filter (p:=(es[i].key,es[i].born)) (L:=(es.toList.map fun e=>(e.key,e.born)).filter fun p=>!seen.contains p.2)
   (hkb.sublist ((List.filter_sublist).map _)) (List.mem_filter.2 ⟨List.mem_map.2 ⟨es[i],hel.1,rfl⟩,by simp only [hel.2]; rfl⟩)
  have hw1:w1.heap=w.heap:=by rcases hal with rfl | rfl <;> rfl
  have g1:Gam C s a w1 E:=by
   rcases hal with rfl | rfl
   ·exact g
   ·exact g.drew
  have i1':w1.heap[b]? = some (.mapIter (some r) last seen last):=by rw [hw1]; exact i1
  have hb':w1.heap[r]? = some (.map es last):=by rw [hw1]; exact hb
  rw [hrun]
  simp only [Result.andThen_ok,Sem.run_pure,Oper.upon_value]
  have hfilt:(es.toList.map fun e=>(e.key,e.born)).filter (fun p=>!(seen.push es[i].born).contains p.2)=A++B:=by
   rw [← hfil,List.filter_filter]
   apply List.filter_congr
   intro q _
   simp [Array.contains_push,Bool.not_or,Bool.and_comm,bne]
   cases h:decide (q.2=es[i].born) <;> simp_all
  have hkp:Keeps w1 E.G (setB w1 b (.mapIter (some r) last (seen.push es[i].born) last)) E.G:=keeps_setB _ hb0.2
  have g2:Gam C { s with maps:=up b (.it r (A.map (·.1)++B.map (·.1)) (some es[i].key)) s.maps } a (setB w1 b (.mapIter (some r) last (seen.push es[i].born) last)) E:=by
   refine g1.setB i1' (by intros; simp) hb0.2 (.inl hb0.1) _ _ (fun c y hy=>?_)
   rw [lk_up] at hy
   split at hy
   ·rename_i e; cases hy; subst e
    refine ⟨hb0,last,last,last,_,es,setB_self i1' _,(setB_other hbr _).trans hb',rfl,rfl,by rw [hfilt]; simp,fun q hq=>?_⟩
    cases hq
    exact ⟨(es[i].key,es[i].born),List.mem_map.2 ⟨es[i],hel.1,rfl⟩,rfl,by simp⟩
   ·rename_i hcb
    refine ObjAt.other i1' hb0.2 hcb (fun l cu e=>?_) (g1.maps c y hy)
    subst e
    obtain ⟨_,_,_,_,_,_,_,j2,_⟩:=g1.maps c _ hy
    rw [i1'] at j2; cases j2
  have hst:∀ w1:World,Go.ChangeMaps.setBlock w1 b (.mapIter (some r) last (seen.push es[i].born) last)=setB w1 b (.mapIter (some r) last (seen.push es[i].born) last):=fun _=>rfl
  rw [hst]
  have hkone:es[i].key.oneCell'=true:=by
   rw [hrd.1]
   have:m.getD i (undef,.tup [])∈m:=by simp [List.getD_eq_getElem?_getD,him]
   exact hone _ this
  refine hK _ _ (step (A.map (·.1)) es[i].key (B.map (·.1)) i (by rw [← i5,hAB]; simp) him hrd.1.symm _ _ _ (g2.putO (v:=.tpl [.raw (.bool true),.raw es[i].key,(m.getD i (undef,.tup [])).2]) (u:=.tuple #[.bool true,es[i].key,es[i].val]) hd ⟨_,rfl,rfl,fun j hj=>?_⟩ (by simp)))
  match j,hj with
  | 0,_=>exact .raw _ rfl
  | 1,_=>exact .raw _ hkone
  | 2,_=>exact (hrd.2.keep (G':=E.G) (w':=w1) ⟨fun _ _ h=>h,fun c n _=>by simp [World.cell?,hw1],fun c n _=>by rw [hw1]⟩).keep hkp
theorem R.entry {x:Operand} {b r i:Nat} {m:AMap} {left:List Value} {key:Value} (ho:o.op = .entry x) (hg:o.guard=none) (hd:dstOk s o) (hx:evO s x = .pd (.raw (.pointer (some ⟨b,0,none⟩)))) (hit:s.map b=some (.it r left (some key))) (hm:s.map r=some (.map m)) (hone:∀ p∈m,p.1.oneCell'=true)
  (hi:i<m.length) (hik:(m.getD i (undef,.tup [])).1=key)
  (next:R C (.ops all l::k) (s.put o.dst (.tpl [.raw key,(m.getD i (undef,.tup [])).2]))):R C (.ops all (o::l)::k) s:=by
 intro a w E g
 refine wpList_plain hg fun K hK=>?_
 have h1:=evO_ok g x
 rw [hx] at h1
 have h1:=RdV.raw_eq h1
 obtain ⟨hG,es,clock,hb,hs,hread,hborn,hclock,hnd⟩:=g.maps r _ hm
 obtain ⟨hb0,since,last,clock',seen,es',i1,i2,i3,i4,i5,i6⟩:=g.maps b _ hit
 rw [hb] at i2; cases i2
 subst i3; subst i4
 obtain ⟨p,hp,hpk,hback⟩:=i6 key rfl
 obtain ⟨e,he,rfl⟩:=List.mem_map.1 hp
 simp only at hpk hback
 obtain ⟨j,hj,rfl⟩:=List.getElem_of_mem he
 have hj':j<es.size:=by simpa using hj
 simp only [Array.getElem_toList] at hpk hback
 have e1:∀ j (h:j<es.size),es.getD j default=es[j]:=fun j h=>by simp [Array.getD,h]
 have hkeys:=MapAt.keys (G:=E.G) (r:=r) (clock:=last) hs (fun i hi=>(hread i hi).1)
 have hji:j=i:=by
  have h2:(m.map (·.1))[j]'(by simpa [← hs] using hj')=(m.map (·.1))[i]'(by simpa using hi):=by
   have a1:=(hread j (by omega)).1
   rw [e1 j hj',hpk] at a1
   simp only [List.getElem_map]
   have b1:m.getD j (undef,.tup [])=m[j]'(by omega):=by simp [List.getD_eq_getElem?_getD,show j<m.length by omega]
   have b2:m.getD i (undef,.tup [])=m[i]:=by simp [List.getD_eq_getElem?_getD,hi]
   rw [b1] at a1; rw [b2] at hik
   rw [← a1,hik]
  exact (List.getElem_inj hnd).1 h2
 subst hji
 have hrd:=hread j hi
 rw [e1 j hj'] at hrd
 have hf:es.find? (fun x=>x.born == es[j].born)=some es[j]:=by
  rw [← Array.find?_toList]; exact find_born es[j] es.toList (born_nodup hborn) (by simp)
 have hrun:(Instr.entry (.pointer (some ⟨b,0,none⟩))).run C.P w = .ok (.tuple #[key,es[j].val]) w:=by
  simp only [Instr.entry,Sem.run_bind,run_gobj i1 (by intros; simp),Result.andThen_ok,run_gmap hb,hback,bne_self_eq_false,Bool.false_eq_true,if_false,hf,Sem.run_pure,hpk]
 unfold Oper.wp execOp
 simp only [ho,h1,Sem.run_bind,hrun,Result.andThen_ok,Sem.run_pure,Oper.upon_value]
 have hkone:key.oneCell'=true:=by
  rw [← hik]
  have:m.getD j (undef,.tup [])∈m:=by simp [List.getD_eq_getElem?_getD,hi]
  exact hone _ this
 refine hK _ _ (next _ _ _ (g.putO (v:=.tpl [.raw key,(m.getD j (undef,.tup [])).2]) hd ⟨_,rfl,rfl,fun n hn=>?_⟩ (by simp)))
 match n,hn with
 | 0,_=>exact .raw _ hkone
 | 1,_=>exact hrd.2
def PD.thaw (r:Nat) (m:AMap):PD→PD
 | .raw (.map (some r'))=>if r'=r then .mp (m.map (·.1)) (m.map (·.2)) else .raw (.map (some r'))
 | d=>d
def SV.thaw (r:Nat) (m:AMap):SV→SV
 | .pd d=>.pd (d.thaw r m)
 | .ifc t v=>.ifc t (v.thaw r m)
 | v=>v
theorem Gam.frzMap (g:Gam C s a w E) {r:Nat} {m:AMap} (hm:s.map r=some (.map m)) (hw:C.w0.heap.size≤r):∃ E':Env,Gam C { s with slots:=s.slots.map fun p=>(p.1,p.2.thaw r m),vars:=s.vars.map fun p=>(p.1,p.2.map (SV.thaw r m)),maps:=up r .gone (noIt r s.maps),gs:=s.gs.map fun p=>(p.1,p.2.thaw r m) } a w E':=by
 let G':Pub:=fun b n=>E.G b n∨b=r
 have hk:Keeps w E.G w G':=.same fun _ _ h=>.inl h
 obtain ⟨hG,es,clock,hb,hs,hread,hborn,hclock,hnd⟩:=g.maps r _ hm
 have hrd:Rd w G' (.map (some r)) (.mp (m.map (·.1)) (m.map (·.2))):=by
  refine .mp _ _ r es clock (fun i=>match (es.getD i default).val with | .agg cs=>cs | v=>#[v]) (.inr rfl) hb (by simpa using hs) (by simp) (fun i hi=>?_) (fun i hi=>?_) (fun i j hi hj=>?_)
  ·simp only [List.length_map] at hi
   rw [(hread i hi).1]; simp [List.getD_eq_getElem?_getD,hi]
  ·simp only [List.length_map] at hi
   have h1:=(hread i hi).2
   have e:(m.map (·.2)).getD i (.tup [])=(m.getD i (undef,.tup [])).2:=by simp [List.getD_eq_getElem?_getD,hi]
   rw [e]
   generalize (m.getD i (undef,.tup [])).2=d at h1
   generalize (es.getD i default).val=v at h1
   cases d with
   | tup ds=>obtain ⟨cs,rfl,h2,_⟩:=h1; exact ⟨rfl,fun _=>h2⟩
   | raw u=>have h3:=Rd.oneCell h1; refine ⟨?_,fun h=>by cases h⟩; cases v <;> first | rfl | (simp [Value.oneCell'] at h3; done)
   | list _ _=>have h3:=Rd.oneCell h1; refine ⟨?_,fun h=>by cases h⟩; cases v <;> first | rfl | (simp [Value.oneCell'] at h3; done)
   | clo _ _=>have h3:=Rd.oneCell h1; refine ⟨?_,fun h=>by cases h⟩; cases v <;> first | rfl | (simp [Value.oneCell'] at h3; done)
   | mp _ _=>have h3:=Rd.oneCell h1; refine ⟨?_,fun h=>by cases h⟩; cases v <;> first | rfl | (simp [Value.oneCell'] at h3; done)
  ·simp only [List.length_map] at hi
   have h1:=((hread i hi).2).keep hk
   have e:(m.map (·.2)).getD i (.tup [])=(m.getD i (undef,.tup [])).2:=by simp [List.getD_eq_getElem?_getD,hi]
   rw [e] at hj ⊢
   generalize (m.getD i (undef,.tup [])).2=d at h1 hj
   generalize (es.getD i default).val=v at h1
   have one:Rd w G' v d→d.width=1→Rd w G' ((match v with | .agg cs=>cs | v=>#[v]).getD j undef) (d.cell j):=by
    intro h1 h2
    have h3:=Rd.oneCell h1
    obtain rfl:j=0:=by omega
    rw [Rd.cell0 h1]
    cases v <;> first | exact h1 | (simp [Value.oneCell'] at h3; done)
   cases d with
   | tup ds=>obtain ⟨cs,rfl,h2,h4⟩:=h1; exact h4 j hj
   | raw u=>exact one h1 rfl
   | list _ _=>exact one h1 rfl
   | clo _ _=>exact one h1 rfl
   | mp _ _=>exact one h1 rfl
 have hrel:∀ v x,Rel C.P w E s.row v x→Rel C.P w { E with G:=G' } s.row v (x.thaw r m):=by
  intro v x
  induction x generalizing v with
  | ifc t x ih=>intro h; obtain ⟨u,e,h⟩:=h; exact ⟨u,e,ih _ h⟩
  | pd d=>
   intro h
   have h':=h.keep (E':={ E with G:=G' }) hk rfl rfl
   simp only [SV.thaw]
   unfold PD.thaw
   split
   ·rename_i r'
    split
    ·rename_i e; subst e
     have:=RdV.raw_eq h; subst this; exact hrd
    ·exact h'
   ·exact h'
  | _=>exact fun h=>h.keep (E':={ E with G:=G' }) hk rfl rfl
 refine ⟨{ E with G:=G' },?_⟩
 have mn:∀ b cur e,Mine C E.G w b cur e→Mine C G' w b cur e:=by
  intro b cur e mm
  refine ⟨mm.1,fun n h=>?_,mm.2.2⟩
  rcases h with h | h
  ·exact mm.2.1 n h
  ·subst h
   have h9:=mm.2.2
   rw [hb] at h9
   cases h9
 have hget:∀ t,(St.get { s with slots:=s.slots.map fun p=>(p.1,p.2.thaw r m),vars:=s.vars.map fun p=>(p.1,p.2.map (SV.thaw r m)),maps:=up r .gone (noIt r s.maps),gs:=s.gs.map fun p=>(p.1,p.2.thaw r m) } t)=(s.get t).thaw r m:=by
  intro t; simp only [St.get,lk_map]; cases lk t s.slots <;> rfl
 have hgget:∀ t,(St.gget { s with slots:=s.slots.map fun p=>(p.1,p.2.thaw r m),vars:=s.vars.map fun p=>(p.1,p.2.map (SV.thaw r m)),maps:=up r .gone (noIt r s.maps),gs:=s.gs.map fun p=>(p.1,p.2.thaw r m) } t)=(s.gget t).thaw r m:=by
  intro t; simp only [St.gget,lk_map]; cases lk t s.gs <;> rfl
 have hvar:∀ t cs,(St.var { s with slots:=s.slots.map fun p=>(p.1,p.2.thaw r m),vars:=s.vars.map fun p=>(p.1,p.2.map (SV.thaw r m)),maps:=up r .gone (noIt r s.maps),gs:=s.gs.map fun p=>(p.1,p.2.thaw r m) } t)=some cs→∃ c0,s.var t=some c0∧cs=c0.map (SV.thaw r m):=by
  intro t cs h
  simp only [St.var,lk_map] at h
  cases h0:s.var t with
  | none=>simp only [St.var] at h0; simp [h0] at h
  | some c0=>simp only [St.var] at h0; simp [h0] at h; exact ⟨c0,rfl,h.symm⟩
 have hbox:∀ t cs,(s.get t).thaw r m = .box cs→s.get t = .box cs:=by
  intro t cs h
  cases hx:s.get t <;> simp [hx,SV.thaw] at h ⊢ <;> exact h
 exact {
  kept:=g.kept
  defers:=g.defers
  size:=g.size
  g0:=fun b n h=>.inl (g.g0 b n h)
  g1:=fun b n h=>by
   rcases h with h | h
   ·exact g.g1 b n h
   ·subst h; exact .inr hw
  tab:=g.tab.keep hk
  gw:=fun b n h=>by
   rcases h with h | h
   ·exact g.gw b n h
   ·subst h; exact (Array.getElem?_eq_some_iff.1 hb).1
  slots:=fun t=>by rw [hget]; exact hrel _ _ (g.slots t)
  ghosts:=fun t=>by rw [hgget]; exact hrel _ _ (g.ghosts t)
  vars:=fun t cs h=>by
   obtain ⟨c0,h0,rfl⟩:=hvar t cs h
   obtain ⟨cur,e,mm,h1,h2⟩:=g.vars t c0 h0
   refine ⟨cur,e,mn _ _ _ mm,by simpa using h1,fun j hj=>?_⟩
   simp only [List.length_map] at hj
   have e2:(c0.map (SV.thaw r m)).getD j .dead=(c0.getD j .dead).thaw r m:=by simp [List.getD_eq_getElem?_getD,hj]
   rw [e2]
   exact ⟨(h2 j hj).1,hrel _ _ (h2 j hj).2⟩
  rows:=fun i r' h=>by
   rcases g.rows i r' h with h | ⟨b,cap,cur,h1,mm,h2,h3,h4,h5,h6⟩
   ·exact .inl h
   ·exact .inr ⟨b,cap,cur,h1,mn _ _ _ mm,h2,h3,h4,h5,fun k j hk' hj=>(h6 k j hk' hj).keep hk⟩
  maps:=fun b y hy=>by
   simp only [St.map,lk_up] at hy
   split at hy
   ·rename_i e; cases hy; subst e
    exact ⟨(Array.getElem?_eq_some_iff.1 hb).1,_,hb,by intros; simp⟩
   ·rename_i hbr
    simp only [noIt,lk_map] at hy
    cases h0:lk b s.maps with
    | none=>simp [h0] at hy
    | some y0=>
     simp [h0] at hy; subst hy
     exact ((g.maps b _ h0).noIt (r:=r)).1.keep hk (fun hn n h=>by
      rcases h with h | h
      ·exact hn n h
      ·exact hbr h) (fun _ _ h _=>h)
  boxes:=fun t cs h=>by
   rw [hget] at h
   obtain ⟨h1,⟨e,mm⟩,h2⟩:=g.boxes t cs (hbox t cs h)
   exact ⟨h1,⟨e,mn _ _ _ mm⟩,h2⟩
  vv:=fun t t' cs cs' h h'=>by obtain ⟨c,h,_⟩:=hvar t cs h; obtain ⟨c',h',_⟩:=hvar t' cs' h'; exact g.vv t t' c c' h h'
  rr:=g.rr
  vr:=fun t cs i r' p h=>by obtain ⟨c,h,_⟩:=hvar t cs h; exact g.vr t c i r' p h
  bb:=fun t t' cs cs' h h'=>by rw [hget] at h h'; exact g.bb t t' cs cs' (hbox t cs h) (hbox t' cs' h')
  bv:=fun t t' cs cs' h h'=>by rw [hget] at h; obtain ⟨c',h',_⟩:=hvar t' cs' h'; exact g.bv t t' cs c' (hbox t cs h) h'
  br:=fun t cs i r' p h=>by rw [hget] at h; exact g.br t cs i r' p (hbox t cs h)
  vfix:=g.vfix
  rfix:=g.rfix
  rnew:=g.rnew }
theorem R.frzMap (r:Nat) (m:AMap) (hm:s.map r=some (.map m)) (hw:C.w0.heap.size≤r) (h:R C k { s with slots:=s.slots.map fun p=>(p.1,p.2.thaw r m),vars:=s.vars.map fun p=>(p.1,p.2.map (SV.thaw r m)),maps:=up r .gone (noIt r s.maps),gs:=s.gs.map fun p=>(p.1,p.2.thaw r m) }):R C k s:=by
 intro a w E g
 obtain ⟨E',g'⟩:=g.frzMap hm hw
 exact h a w E' g'
end
end Go.Abs
end
