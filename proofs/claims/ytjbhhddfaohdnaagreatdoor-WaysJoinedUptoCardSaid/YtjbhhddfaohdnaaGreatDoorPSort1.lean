/- A part of the proof: Sort, Sort1. -/
import Derived.Test.YtjbhhddfaohdnaaGreatDoorPFrv
import Derived.Shelf.SlSortCmp.NoneTotal
set_option linter.all false
set_option linter.deprecated false
section
namespace Go.Abs
open Go.Sort Go.Shelf Go.Lib Go.Proofs
section
variable {C:Cx} {s:St} {a:Act} {w w':World} {E:Env} {P:Program} {k:List KI} {all:Array Oper} {l:List Oper} {o:Oper}
theorem Gam.drewN (g:Gam C s a w E) (n:Nat):Gam C s a (w.drewN n) E:=by
 have h:=g.grow (w':=w.drewN n) ⟨⟨rfl,rfl,rfl,Nat.le_refl _,fun _ _=>rfl⟩,Nat.le_add_right _ _⟩ E.G (fun _ _ h=>h) (fun _ _ h=>.inl h)
 exact h
theorem below_grow (w:World) (os:Array Obj):Below w.heap.size w (Sort.grow w os):=
 ⟨⟨rfl,rfl,rfl,by simp [Sort.grow],fun b hb=>by simp only [Sort.grow]; rw [Array.getElem?_append_left hb]⟩,Nat.le_refl _⟩
theorem Gam.grown (g:Gam C s a w E) (os:Array Obj):Gam C s a (Sort.grow w os) E:=by
 have h:=g.grow (below_grow w os) E.G (fun _ _ h=>h) (fun _ _ h=>.inl h)
 exact h
theorem Below.eq_grow (h:Below w.heap.size w w'):∃ q os,w'=Sort.grow (w.drewN q) os:=by
 refine ⟨w'.drawn - w.drawn,w'.heap.extract w.heap.size w'.heap.size,?_⟩
 have h1:=h.drawn
 have h2:w'.heap=w.heap++w'.heap.extract w.heap.size w'.heap.size:=by
  apply Array.ext_getElem?
  intro i
  by_cases c:i<w.heap.size
  ·rw [Array.getElem?_append_left c]; exact h.block i c
  ·rw [Array.getElem?_append_right (by omega),Array.getElem?_extract]
   have:=h.size
   split
   ·congr 1; omega
   ·rw [Array.getElem?_eq_none]; omega
 obtain ⟨hp,tp,dr,os,ou⟩:=w
 obtain ⟨hp',tp',dr',os',ou'⟩:=w'
 have e1:os'=os:=h.os
 have e2:tp'=tp:=h.tape
 have e3:ou'=ou:=h.output
 subst e1 e2 e3
 simp only [Sort.grow,World.drewN,World.mk.injEq,true_and,and_true]
 simp only at h1 h2
 exact ⟨h2,by omega⟩
theorem putRow_setRow {b:Nat} {cur:Array Value} {e:TypeId} {fr:Nat × Nat} (hb:w.heap[b]? = some (.cells cur e fr)) (F:Array Value):putRow id w b 0 F=w.setRow b (putCells id 0 F cur):=by
 unfold putRow mapBlock World.setRow
 congr 1
 apply Array.ext_getElem?
 intro i
 simp only [Array.getElem?_modify]
 split
 ·rename_i he; subst he; simp [hb,onCells]
 ·rfl
theorem frozen_mine {G:Pub} {b:Nat} {cur:Array Value} {e:TypeId} (m:Mine C G w b cur e) (i:Nat):w.frozen? ⟨b,i,none⟩=false:=by
 simp [World.frozen?,m.2.2]
structure Elem (w:World) (G:Pub) {T:Type} (enc:T→PD) (k:Nat) (l:List T) where
 x:T
 vs:List Value
 mem:x∈l
 len:vs.length=k
 one:∀ v∈vs,v.oneCell'=true
 rd:∀ j,j<k→Rd w G (vs.getD j undef) ((enc x).cell j)
theorem RdV.agg_of {G:Pub} {d:PD} {cs:Array Value} (ht:d.isTup=true) (hs:cs.size=d.width) (h:∀ j,j<d.width→Rd w G (cs.getD j undef) (d.cell j)):RdV w G (.agg cs) d:=by
 cases d with
 | tup ds=>exact ⟨cs,rfl,hs,h⟩
 | _=>cases ht
def FnOk0 (P:Program) (w:World) (G:Pub) (v:Value) (F:List PD→PD→Prop):Prop:=
 ∃ f caps,v = .func (.func f) #[] caps∧Ent P f ∧
  ∀ w' G',Keeps w G w' G'→Good w' G'→∀ ds r (vals:Array Value),F ds r→vals.size=ds.length →
   (∀ j,j<ds.length→RdV w' G' (vals.getD j undef) (ds.getD j (.tup [])))→Calls P f (vals++caps) w' (PureRet w' G' [r])
theorem putCells_get {F cur:Array Value} (h:F.size≤cur.size) (t:Nat) (ht:t<F.size):(putCells id 0 F cur).getD t undef=F[t]!:=by
 have:t<cur.size:=by omega
 simp [putCells,Array.getD,this,ht]
theorem cell_mine {G:Pub} {b:Nat} {cur:Array Value} {e:TypeId} (m:Mine C G w b cur e) (i:Nat) (hi:i<cur.size):w.cell? ⟨b,i,none⟩=some (cur.getD i undef):=by
 simp [World.cell?,m.2.2,Array.getD,hi]
theorem sortF_ok {ρ:Ren} (L:SlLaysF0.n6 C.P ρ) {T:Type} (enc:T→PD) (n:Nat) (hn:n≠0) (aE:aggT C.P (ρ.t 24)=true) (kE:knownT C.P (ρ.t 24)=true) (zE:szT C.P (ρ.t 24)=n) (c:T→T→Int) (lt:List T) (hO:SWO (ltOf c)) (hw:∀ x,(enc x).width=n) (ht:∀ x,(enc x).isTup=true)
  (g:Gam C s a w E) {i:Nat} {e:TypeId} (hr:s.row i=some ⟨e,n,lt.map enc⟩) {u v:Value} (hu:Rel C.P w E s.row u (.own i)) (hv:FnOk0 C.P w E.G v (fun es r=>∃ x∈lt,∃ y∈lt,es=[enc x,enc y]∧r = .raw (.int .i64 (c x y)))) (hl:lt.length<4611686018427387904):
  Calls C.P (ρ.f 6) #[u,v] w fun en w'=>en = .returned (.tuple #[])∧∃ (l':List T) (E':Env),l'.Perm lt∧l'.Pairwise (fun x y=>¬ c y x<0)∧Gam C (s.setRow i ⟨e,n,l'.map enc⟩) a w' E':=by
 obtain ⟨f,caps,rfl,hent,hcall⟩:=hv
 have same:lt=[]→Gam C (s.setRow i ⟨e,n,([]:List T).map enc⟩) a w E:=by
  rintro rfl
  refine g.weak ⟨rfl,fun _=>.same _,fun t cs h=>⟨cs,h,rfl,fun _ _=>.same _⟩,fun j r h=>?_,fun _ _ h=>h,fun _=>.same _⟩
  simp only [St.row,St.setRow,lk_up] at h
  split at h
  ·rename_i he; subst he; cases h; exact hr
  ·exact h
 rcases hu _ hr with ⟨hb,rfl⟩ | ⟨b,cap,hb,rfl⟩
 ·have hnil:lt=[]:=by have:=g.rb_nil i _ hr hb; simpa using this
  refine (AnyF.slices_SortFunc_none L none 0 _ w).mono ?_
  rintro e' w' ⟨rfl,rfl⟩
  exact ⟨rfl,[],E,by rw [hnil],.nil,same hnil⟩
 ·by_cases hnil:lt=[]
  ·have hz:(lt.map enc).length=0:=by simp [hnil]
   simp only [hz]
   refine (AnyF.slices_SortFunc_none L _ cap _ w).mono ?_
   rintro e' w' ⟨rfl,rfl⟩
   exact ⟨rfl,[],E,by rw [hnil],.nil,same hnil⟩
  ·rcases g.rows i _ hr with ⟨h1,_⟩ | ⟨b',cap',cur,h1,m,hsz,hle,hmax,hwid,hrd⟩
   ·rw [h1] at hb; cases hb
   rw [h1] at hb; cases hb
   simp only [List.length_map] at hle hwid hrd hsz
   have hpos:0<lt.length:=List.length_pos_iff.2 hnil
   have henc:∀ j (h:j<lt.length),(lt.map enc).getD j (.tup [])=enc lt[j]:=fun j h=>by simp [h]
   have hbound:lt.length * n≤cur.size:=by rw [hsz]; exact Nat.mul_le_mul_right n hle
   have hrd':∀ k (hk:k<lt.length) j,j<n→Rd w E.G (cur.getD (k * n+j) undef) ((enc lt[k]).cell j):=fun k hk j hj=>by have:=hrd k j hk hj; rwa [henc k hk] at this
   let mk:(j:Nat)→j<lt.length→Elem w E.G enc n lt:=fun j hj=>
    { x:=lt[j],vs:=(List.range n).map fun q=>cur.getD (j * n+q) undef,mem:=List.getElem_mem hj,len:=by simp,
      one:=fun v hv=>by
       simp only [List.mem_map,List.mem_range] at hv
       obtain ⟨q,hq,rfl⟩:=hv
       exact (hrd' j hj q hq).oneCell
      rd:=fun q hq=>by simpa [hq] using hrd' j hj q hq }
   letI:Inhabited (Elem w E.G enc n lt):=⟨mk 0 hpos⟩
   let d:Array (Elem w E.G enc n lt):=Array.ofFn fun j:Fin lt.length=>mk j.1 j.2
   have hds:d.size=lt.length:=by simp [d]
   have hdi:∀ j (h:j<lt.length),d[j]! = mk j h:=fun j h=>by
    rw [getElem!_pos d j (by rw [hds]; exact h)]; simp [d]
   have hmod:∀ t,t / n * n+t % n=t:=fun t=>by rw [Nat.mul_comm]; exact Nat.div_add_mod t n
   have hH:HoldsK (fun x:Elem w E.G enc n lt=>x.vs) n w b 0 d:=by
    intro t hT
    rw [size_flatK,hds] at hT
    refine ⟨?_,frozen_mine m _⟩
    rw [Nat.zero_add,cell_mine m t (by omega),get_flatK _ _ _ _ (by rw [hds]; exact hT)]
    have hq:t / n<lt.length:=Nat.div_lt_of_lt_mul (by rw [Nat.mul_comm]; exact hT)
    have hr':t % n<n:=Nat.mod_lt _ (Nat.pos_of_ne_zero hn)
    rw [hdi _ hq]
    simp only [mk,id]
    rw [getElem!_pos _ _ (by simpa using hr')]
    simp [hmod t]
   have hworld:∀ mm os (dk:Array (Elem w E.G enc n lt)),sortWorldK (fun x:Elem w E.G enc n lt=>x.vs) n w b 0 mm dk os=Sort.grow ((w.setRow b (putCells id 0 (flatK (fun x=>x.vs) n dk) cur)).drewN mm) os:=by
    intro mm os dk
    unfold sortWorldK putRowK
    rw [putRow_ahead,putRow_setRow m.2.2]; rfl
   have hkeep:∀ mm os F,Keeps w E.G (Sort.grow ((w.setRow b F).drewN mm) os) E.G:=by
    intro mm os F
    refine (keeps_setRow (w:=w) F m.2.1).trans ?_
    exact Keeps.of_below (n:=(w.setRow b F).heap.size) (fun b' o' h=>by simpa [World.setRow] using g.gw b' o' h) ((⟨⟨rfl,rfl,rfl,Nat.le_refl _,fun _ _=>rfl⟩,Nat.le_add_right _ _⟩:Below (w.setRow b F).heap.size (w.setRow b F) ((w.setRow b F).drewN mm)).trans (below_grow ((w.setRow b F).drewN mm) os)) (fun _ _ h=>h)
   have hcmp:CmpLays C.P f caps (fun x:Elem w E.G enc n lt=>x.vs) n (fun x y=>c x.x y.x) b 0 d.size w:=by
    intro mm os dk _ x y
    rw [hworld]
    have hk:=hkeep mm os (putCells id 0 (flatK (fun x=>x.vs) n dk) cur)
    have hg:Good (Sort.grow ((w.setRow b (putCells id 0 (flatK (fun x=>x.vs) n dk) cur)).drewN mm) os) E.G:=⟨fun b' o' h=>by
     have:=g.gw b' o' h; simp [Sort.grow,World.drewN,World.setRow]; omega,g.tab.keep hk⟩
    have rdE:∀ z:Elem w E.G enc n lt,RdV (Sort.grow ((w.setRow b (putCells id 0 (flatK (fun x=>x.vs) n dk) cur)).drewN mm) os) E.G (.agg z.vs.toArray) (enc z.x):=fun z=>
     RdV.agg_of (ht _) (by simp [z.len,hw]) (fun j hj=>by
      rw [hw] at hj
      have:=(z.rd j hj).keep hk
      simpa [Array.getD_eq_getD_getElem?,List.getD_eq_getElem?_getD] using this)
    refine (hcall _ E.G hk hg [enc x.x,enc y.x] _ #[.agg x.vs.toArray,.agg y.vs.toArray] ⟨x.x,x.mem,y.x,y.mem,rfl,rfl⟩ rfl (fun j hj=>?_)).mono ?_
    ·match j,hj with
     | 0,_=>exact rdE x
     | 1,_=>exact rdE y
    ·rintro e' w' ⟨v,rfl,hv,hbel⟩
     have:v = .int .i64 (c x.x y.x):=RdV.raw_eq hv
     subst this
     exact ⟨rfl,hbel.eq_grow⟩
   have hO':SWO (ltOf fun x y:Elem w E.G enc n lt=>c x.x y.x):=⟨fun x=>hO.irrefl x.x,fun x y z=>hO.trans x.x y.x z.x,fun x y z=>hO.ntrans x.x y.x z.x⟩
   have hlen:(lt.map enc).length=d.size:=by rw [hds]; simp
   simp only [hlen]
   refine (AnyQ.slices_SortFunc L n (fun w=>by rw [run_aggT kE,aE]) (fun w=>by rw [run_szT (by rw [zE]; exact hn),zE]) (fun x:Elem w E.G enc n lt=>x.vs) (fun x=>x.len) (fun x=>x.one) (fun x y=>c x.x y.x) hO' f caps b 0 cap d w hent hcmp hH m.lt (by rw [hds]; exact hl)).mono ?_
   rintro e' w' ⟨rfl,d',q,os,⟨hp1,_,hp2⟩,hs',rfl⟩
   rw [hworld]
   have hd's:d'.size=lt.length:=by rw [hp1,hds]
   have hperm:d'.toList.Perm d.toList:=by
    have e1:d'.extract 0 d.size=d':=by rw [← hp1]; simp
    have e2:d.extract 0 d.size=d:=by simp
    rw [e1,e2] at hp2; exact hp2
   have hdl:d.toList.map (·.x)=lt:=by
    apply List.ext_getElem
    ·simp [hds]
    ·intro j h1 h2
     have hj:j<d.size:=by simpa using h1
     have h3:=hdi j (by rw [← hds]; exact hj)
     rw [getElem!_pos d j hj] at h3
     simp only [List.getElem_map,Array.getElem_toList,h3,mk]
   refine ⟨rfl,d'.toList.map (·.x),E,(hperm.map _).trans (by rw [hdl]),?_,?_⟩
   ·rw [List.pairwise_iff_getElem]
    intro p q hp hq hpq
    have hp':p<d'.size:=by simpa using hp
    have hq':q<d'.size:=by simpa using hq
    have:=hs' p q (Nat.zero_le _) hpq (by rw [hp1] at hq'; exact hq')
    rw [getElem!_pos d' p hp',getElem!_pos d' q hq'] at this
    simpa [ltOf] using this
   ·have hfs:(flatK (fun x:Elem w E.G enc n lt=>x.vs) n d').size=lt.length * n:=by rw [size_flatK,hd's]
    refine Gam.grown (Gam.drewN (g.rowSet hr h1 ((d'.toList.map (·.x)).map enc) (putCells id 0 (flatK (fun x=>x.vs) n d') cur) (by simp [hd's]) (by simp [putCells,hsz]) (fun k hk=>?_) (fun k j hk hj=>?_)) q) os
    ·simp only [List.length_map,Array.length_toList] at hk
     simp only [List.map_map,List.getD_eq_getElem?_getD,List.getElem?_map]
     simp [hk,hw]
    ·have hj:j<n:=hj
     simp only [List.length_map,Array.length_toList] at hk
     have hkn:k * n+j<lt.length * n:=by
      have:(k+1) * n≤lt.length * n:=Nat.mul_le_mul_right n (by rw [← hd's]; exact hk)
      rw [Nat.add_mul] at this; omega
     rw [putCells_get (by rw [hfs]; exact hbound) _ (by rw [hfs]; exact hkn),get_flatK _ _ _ _ (by rw [hd's]; exact hkn)]
     have e1:(k * n+j) / n=k:=by rw [Nat.mul_comm,Nat.mul_add_div (Nat.pos_of_ne_zero hn),Nat.div_eq_of_lt hj,Nat.add_zero]
     have e2:(k * n+j) % n=j:=by rw [Nat.mul_comm,Nat.mul_add_mod,Nat.mod_eq_of_lt hj]
     rw [e1,e2,getElem!_pos d' k hk]
     have:=(d'[k]).rd j hj
     have hjl:j<(d'[k]).vs.length:=by rw [(d'[k]).len]; exact hj
     rw [getElem!_pos (d'[k]).vs j hjl]
     have e3:((d'.toList.map (·.x)).map enc).getD k (.tup [])=enc (d'[k]).x:=by simp [hk]
     rw [e3]
     simpa [hjl] using this
theorem FnOk.to0 {G:Pub} {v:Value} {F:List PD→PD→Prop} (h:FnOk P w G v F) (hv:∃ f caps,v = .func (.func f) #[] caps):FnOk0 P w G v F:=by
 obtain ⟨f,first,caps,rfl,he,hc⟩:=h
 obtain ⟨f',caps',e⟩:=hv
 cases e
 exact ⟨f,caps,rfl,he,fun w' G' hk hg ds r vals hF hs hr=>by simpa using hc w' G' hk hg ds r vals hF hs hr⟩
inductive Cmp (P:Program) (F:List PD→PD→Prop):SV→Prop
 | func (f:FuncId) (he:Ent P f) (h:∀ ds r,F ds r→FnC P f (ds.map .pd) [r]):Cmp P F (.pd (.raw (.func (.func f) #[] #[])))
 | clo (f:FuncId) (ds:List PD) (he:Ent P f) (h:∀ es r,F es r→FnC P f (es.map .pd++ds.map fun d=>.ref d 0) [r]):Cmp P F (.pd (.clo f ds))
theorem Cmp.ok {F:List PD→PD→Prop} {y:SV} (h:Cmp C.P F y) (g:Gam C s a w E) {v:Value} (hv:Rel C.P w E s.row v y):FnOk0 C.P w E.G v F:=by
 cases h with
 | func f he h=>
  have hc:FnOk C.P w E.G v F:=Co.ok g (l:=false) (.func f F he h) hv
  have:=RdV.raw_eq hv; subst this
  exact hc.to0 ⟨f,#[],rfl⟩
 | clo f ds he h=>
  have hc:FnOk C.P w E.G v F:=Co.ok g (l:=false) (.cld f ds F he h) hv
  cases hv with
  | clo _ _ bs vs hl hpub hcell hrd=>exact hc.to0 ⟨f,_,rfl⟩
theorem R.sortF {ρ:Ren} (L:SlLaysF0.n6 C.P ρ) {f:FuncId} {x y:Operand} {ts:Array TypeId} {T:Type} (enc:T→PD) (n:Nat) (c:T→T→Int) (lt:List T) {i:Nat} {e:TypeId} (hf:ρ.f 6=f) (he:Ent C.P f) (ho:o.op = .call ⟨.value (.func f),#[x,y],ts⟩) (hg:o.guard=none) (hd:dstP s o) (hx:evO s x = .own i) (hr:s.row i=some ⟨e,n,lt.map enc⟩)
  (hn:n≠0) (aE:aggT C.P (ρ.t 24)=true) (kE:knownT C.P (ρ.t 24)=true) (zE:szT C.P (ρ.t 24)=n) (hw:∀ x,(enc x).width=n) (ht:∀ x,(enc x).isTup=true) (hO:SWO (ltOf c)) (hl:lt.length<4611686018427387904)
  (hc:Cmp C.P (fun es r=>∃ x∈lt,∃ y∈lt,es=[enc x,enc y]∧r = .raw (.int .i64 (c x y))) (evO s y))
  (next:∀ l':List T,l'.Perm lt→l'.Pairwise (fun x y=>¬ c y x<0)→R C (.ops all l::k) ((s.setRow i ⟨e,n,l'.map enc⟩).put o.dst .dead)):R C (.ops all (o::l)::k) s:=by
 intro a w E g
 refine wpList_plain hg fun K hK=>?_
 have hrun:=run_call (P:=C.P) (w:=w) he a.eval o (.func f) #[x,y] ts #[] ho #[] rfl
 unfold Oper.wp
 rw [hrun,Oper.upon_enter]
 have h1:=evO_ok g x; rw [hx] at h1
 have h2:=hc.ok g (evO_ok g y)
 have hcall:=sortF_ok L enc n hn aE kE zE c lt hO hw ht g hr h1 h2 hl
 rw [hf] at hcall
 have e1:(#[]++(#[x,y]:Array Operand).map a.eval ++ #[]:Array Value) = #[a.eval x,a.eval y]:=by simp
 rw [e1]
 refine hcall.mono ?_
 rintro en w' ⟨rfl,l',E',hp,hs,g'⟩
 have hd':dstOk (s.setRow i ⟨e,n,l'.map enc⟩) o:=fun t h=>dstP_ok hd t h
 exact hK _ _ (next l' hp hs _ _ _ (g'.putO hd' (v:=.dead) trivial (by simp)))
end
end Go.Abs
end
section
namespace Go.Abs
open Go.Sort Go.Shelf Go.Lib
section
variable {C:Cx} {s:St} {a:Act} {w w':World} {E:Env} {P:Program} {k:List KI} {all:Array Oper} {l:List Oper} {o:Oper}
variable {T:Type} [Inhabited T] (enc:T→Value)
theorem putRow_setRow1 {b:Nat} {cur:Array Value} {e:TypeId} {fr:Nat × Nat} (hb:w.heap[b]? = some (.cells cur e fr)) (q:Nat) (F:Array T):putRow enc (Sort.ahead w q) b 0 F=(w.setRow b (putCells enc 0 F cur)).drewN q:=by
 rw [putRow_ahead]
 have:putRow enc w b 0 F=w.setRow b (putCells enc 0 F cur):=by
  unfold putRow mapBlock World.setRow
  congr 1
  apply Array.ext_getElem?
  intro i
  simp only [Array.getElem?_modify]
  split
  ·rename_i he; subst he; simp [hb,onCells]
  ·rfl
 rw [this]; rfl
theorem putCells_get1 {F:Array T} {cur:Array Value} (h:F.size≤cur.size) (t:Nat) (ht:t<F.size):(putCells enc 0 F cur).getD t undef=enc F[t]!:=by
 have:t<cur.size:=by omega
 simp [putCells,Array.getD,this,ht]
abbrev rows1 (lt:List T):List PD:=lt.map fun x=>.raw (enc x)
theorem Gam.holds1 (g:Gam C s a w E) {i:Nat} {e:TypeId} {lt:List T} (hr:s.row i=some ⟨e,1,rows1 enc lt⟩) {b cap:Nat} (hb:E.rb i=some (b,cap)):
  Holds enc w b 0 lt.toArray∧b<w.heap.size∧lt.length≤cap∧cap≤maxLen∧∃ cur,Mine C E.G w b cur e∧cur.size=cap:=by
 rcases g.rows i _ hr with ⟨h1,_⟩ | ⟨b',cap',cur,h1,m,hsz,hle,hmax,hwid,hrd⟩
 ·rw [h1] at hb; cases hb
 rw [h1] at hb; cases hb
 simp only [List.length_map,Nat.mul_one] at hle hrd hsz
 refine ⟨fun t ht=>?_,m.lt,hle,hmax,cur,m,hsz⟩
 have ht:t<lt.length:=by simpa using ht
 refine ⟨?_,frozen_mine m _⟩
 have h2:=hrd t 0 ht (by simp)
 have e1:(rows1 enc lt).getD t (.tup []) = .raw (enc lt[t]):=by simp [rows1,ht]
 rw [e1] at h2
 simp only [Nat.add_zero] at h2
 have h3:cur.getD t undef=enc lt[t]:=RdV.raw_eq (Rd.toV h2)
 rw [Nat.zero_add,cell_mine m t (by omega),h3,getElem!_pos lt.toArray t (by simpa using ht)]
 simp
theorem Gam.put1 (g:Gam C s a w E) {i:Nat} {e:TypeId} {lt:List T} (h1c:∀ x,(enc x).oneCell'=true) (hr:s.row i=some ⟨e,1,rows1 enc lt⟩) {b cap:Nat} (hb:E.rb i=some (b,cap)) (hr0:C.rb0 i=none) (q:Nat) (F:Array T) (l2:List T) (hF:F.size=lt.length) (hl:l2.length≤F.size) (hp:∀ j (h:j<l2.length),F[j]! = l2[j]):
  Gam C (s.newRow i ⟨e,1,rows1 enc l2⟩) a (putRow enc (Sort.ahead w q) b 0 F) { E with rb:=fun j=>if j=i then some (b,cap) else E.rb j }:=by
 obtain ⟨_,hbs,hle,hmax,cur,m,hsz⟩:=g.holds1 enc hr hb
 rw [putRow_setRow1 enc m.2.2]
 have hk:Keeps w E.G (w.setRow b (putCells enc 0 F cur)) E.G:=keeps_setRow _ m.2.1
 have g1:=g.row (i:=i) (r':=⟨e,1,rows1 enc l2⟩) (w':=w.setRow b (putCells enc 0 F cur)) (some (b,cap)) hk (kept_setRow g.kept _ m.1) (by simp [World.setRow]) (fun p hp=>by rw [hr0] at hp; cases hp)
  (fun b' hb' hne=>setRow_other w b b' _ (fun e'=>hne _ _ hr hb e'))
  (.inr ⟨b,cap,putCells enc 0 F cur,rfl,m.set,by simp [putCells,hsz],by simp; omega,hmax,fun j hj=>?_,fun j q hj hq=>?_⟩) (fun b' cap' h=>by cases h; exact .inr ⟨_,_,hr,hb,rfl⟩)
 ·exact g1.drewN q
 ·simp only [List.length_map] at hj
  simp [rows1,hj,PD.width]
 ·simp only [List.length_map] at hj
  have hq:q=0:=by simp at hq; exact hq
  subst hq
  simp only [Nat.mul_one,Nat.add_zero]
  rw [putCells_get1 enc (by omega) j (by omega),hp j hj]
  have e1:(rows1 enc l2).getD j (.tup []) = .raw (enc l2[j]):=by simp [rows1,hj]
  rw [e1]; exact .raw _ (h1c _)
theorem Gam.same1 (g:Gam C s a w E) {i:Nat} {e:TypeId} {lt:List T} (h1c:∀ x,(enc x).oneCell'=true) (hr:s.row i=some ⟨e,1,rows1 enc lt⟩) {b cap:Nat} (hb:E.rb i=some (b,cap)) (q:Nat) (F:Array T) (l2:List T) (hF:F.size=lt.length) (hl:l2.length=F.size) (hp:∀ j (h:j<l2.length),F[j]! = l2[j]):
  Gam C (s.setRow i ⟨e,1,rows1 enc l2⟩) a (putRow enc (Sort.ahead w q) b 0 F) E:=by
 obtain ⟨_,hbs,hle,hmax,cur,m,hsz⟩:=g.holds1 enc hr hb
 rw [putRow_setRow1 enc m.2.2]
 have g1:=g.rowSet hr hb (rows1 enc l2) (putCells enc 0 F cur) (by simp; omega) (by simp [putCells,hsz]) (fun j hj=>by
  simp only [List.length_map] at hj
  simp [rows1,hj,PD.width]) (fun j q hj hq=>by
  simp only [List.length_map] at hj
  have hq:q=0:=by simp at hq; exact hq
  subst hq
  simp only [Nat.mul_one,Nat.add_zero]
  rw [putCells_get1 enc (by omega) j (by omega),hp j hj]
  have e1:(rows1 enc l2).getD j (.tup []) = .raw (enc l2[j]):=by simp [rows1,hj]
  rw [e1]; exact .raw _ (h1c _))
 exact g1.drewN q
structure SortsTo (P:Program) (f:FuncId) (srt:List T→List T):Prop where
 ent:Ent P f
 len:∀ zs,(srt zs).length=zs.length
 some:∀ blk off cap zs w,Holds enc w blk off zs.toArray→blk<w.heap.size→zs.length<4611686018427387904 →
  Calls P f #[.slice (some ⟨blk,off,none⟩) zs.length cap] w fun e w'=>e = .returned (.tuple #[])∧∃ n os,w'=Sort.grow (putRow enc (Sort.ahead w n) blk off (srt zs).toArray) os
 none:∀ p cap w,Calls P f #[.slice p 0 cap] w fun e w'=>e = .returned (.tuple #[])∧w'=w
theorem sort1_ok {f:FuncId} {srt:List T→List T} (S:SortsTo enc C.P f srt) (h1c:∀ x,(enc x).oneCell'=true) (g:Gam C s a w E) {i:Nat} {e:TypeId} {lt:List T} (hr:s.row i=some ⟨e,1,rows1 enc lt⟩) {u:Value} (hu:Rel C.P w E s.row u (.own i)) (hl:lt.length<4611686018427387904):
  Calls C.P f #[u] w fun en w'=>en = .returned (.tuple #[])∧∃ E',Gam C (s.setRow i ⟨e,1,rows1 enc (srt lt)⟩) a w' E':=by
 have same:lt=[]→Gam C (s.setRow i ⟨e,1,rows1 enc (srt lt)⟩) a w E:=by
  rintro rfl
  have:srt []=[]:=List.length_eq_zero_iff.1 (by rw [S.len]; rfl)
  rw [this]
  refine g.weak ⟨rfl,fun _=>.same _,fun t cs h=>⟨cs,h,rfl,fun _ _=>.same _⟩,fun j r h=>?_,fun _ _ h=>h,fun _=>.same _⟩
  simp only [St.row,St.setRow,lk_up] at h
  split at h
  ·rename_i he; subst he; cases h; exact hr
  ·exact h
 rcases hu _ hr with ⟨hb,rfl⟩ | ⟨b,cap,hb,rfl⟩
 ·have hnil:lt=[]:=by have:=g.rb_nil i _ hr hb; simpa [rows1] using this
  refine (S.none Option.none 0 w).mono ?_
  rintro e' w' ⟨rfl,rfl⟩
  exact ⟨rfl,E,same hnil⟩
 ·obtain ⟨hH,hbs,hle,hmax,_⟩:=g.holds1 enc hr hb
  have e1:(rows1 enc lt).length=lt.length:=by simp [rows1]
  simp only [e1]
  refine (S.some b 0 cap lt w hH hbs hl).mono ?_
  rintro e' w' ⟨rfl,q,os,rfl⟩
  exact ⟨rfl,E,(g.same1 enc h1c hr hb q (srt lt).toArray (srt lt) (by simp [S.len]) (by simp) (fun j h=>by rw [getElem!_pos _ _ (by simpa using h)]; simp)).grown os⟩
theorem R.sort1 {f:FuncId} {x:Operand} {ts:Array TypeId} {srt:List T→List T} (S:SortsTo enc C.P f srt) (h1c:∀ x,(enc x).oneCell'=true) (lt:List T) {i:Nat} {e:TypeId} (ho:o.op = .call ⟨.value (.func f),#[x],ts⟩) (hg:o.guard=none) (hd:dstP s o) (hx:evO s x = .own i) (hr:s.row i=some ⟨e,1,rows1 enc lt⟩) (hl:lt.length<4611686018427387904)
  (next:R C (.ops all l::k) ((s.setRow i ⟨e,1,rows1 enc (srt lt)⟩).put o.dst .dead)):R C (.ops all (o::l)::k) s:=by
 intro a w E g
 refine wpList_plain hg fun K hK=>?_
 have hrun:=run_call (P:=C.P) (w:=w) S.ent a.eval o (.func f) #[x] ts #[] ho #[] rfl
 unfold Oper.wp
 rw [hrun,Oper.upon_enter]
 have h1:=evO_ok g x; rw [hx] at h1
 have e1:(#[]++(#[x]:Array Operand).map a.eval ++ #[]:Array Value) = #[a.eval x]:=by simp
 rw [e1]
 refine (sort1_ok enc S h1c g hr h1 hl).mono ?_
 rintro en w' ⟨rfl,E',g'⟩
 have hd':dstOk (s.setRow i ⟨e,1,rows1 enc (srt lt)⟩) o:=fun t h=>dstP_ok hd t h
 exact hK _ _ (next _ _ _ (g'.putO hd' (v:=.dead) trivial (by simp)))
structure CutsTo (P:Program) (f:FuncId) (cut:List T→List T):Prop where
 ent:Ent P f
 len:∀ zs,(cut zs).length≤zs.length
 some:∀ blk off cap zs w,Holds enc w blk off zs.toArray→zs.length≤9223372036854775807→zs.length≤cap →
  Calls P f #[.slice (some ⟨blk,off,none⟩) zs.length cap] w fun e w'=>e = .returned (.slice (some ⟨blk,off,none⟩) (cut zs).length cap)∧∃ (q:Nat) (F:Array T),F.size=zs.length∧(∀ j (h:j<(cut zs).length),F[j]! = (cut zs)[j])∧w'=putRow enc (Sort.ahead w q) blk off F
 none:∀ p cap w,Calls P f #[.slice p 0 cap] w fun e w'=>e = .returned (.slice p 0 cap)∧w'=w
theorem R.cut1 {f:FuncId} {x:Operand} {ts:Array TypeId} {cut:List T→List T} (S:CutsTo enc C.P f cut) (h1c:∀ x,(enc x).oneCell'=true) (lt:List T) {i:Nat} {e:TypeId} (ho:o.op = .call ⟨.value (.func f),#[x],ts⟩) (hg:o.guard=none) (hd:dstP s o) (hr0:C.rb0 i=none) (hx:evO s x = .own i) (hr:s.row i=some ⟨e,1,rows1 enc lt⟩) (hl:lt.length<4611686018427387904)
  (next:R C (.ops all l::k) ((s.newRow i ⟨e,1,rows1 enc (cut lt)⟩).put o.dst (.own i))):R C (.ops all (o::l)::k) s:=by
 intro a w E g
 refine wpList_plain hg fun K hK=>?_
 have hrun:=run_call (P:=C.P) (w:=w) S.ent a.eval o (.func f) #[x] ts #[] ho #[] rfl
 unfold Oper.wp
 rw [hrun,Oper.upon_enter]
 have h1:=evO_ok g x; rw [hx] at h1
 have e1:(#[]++(#[x]:Array Operand).map a.eval ++ #[]:Array Value) = #[a.eval x]:=by simp
 rw [e1]
 have hd':dstOk (s.newRow i ⟨e,1,rows1 enc (cut lt)⟩) o:=fun t h=>dstP_ok hd t h
 rcases h1 _ hr with ⟨hb,hv⟩ | ⟨b,cap,hb,hv⟩
 ·have hnil:lt=[]:=by have:=g.rb_nil i _ hr hb; simpa [rows1] using this
  subst hnil
  have hc:cut []=[]:=List.length_eq_zero_iff.1 (by have:=S.len []; simpa using this)
  rw [hv]
  refine (S.none Option.none 0 w).mono ?_
  rintro e' w' ⟨rfl,rfl⟩
  have g1:=g.row (i:=i) (r':=⟨e,1,rows1 enc (cut [])⟩) (w':=w') Option.none (Keeps.refl _ _) g.kept (Nat.le_refl _) (fun p hp=>by rw [hr0] at hp; cases hp) (fun _ _ _=>rfl) (.inl ⟨rfl,by rw [hc]; rfl⟩) (fun b cap h=>by cases h)
  exact hK _ _ (next _ _ _ (g1.putO hd' (v:=.own i) (fun r _=>.inl ⟨by simp,rfl⟩) (by simp)))
 ·obtain ⟨hH,hbs,hle,hmax,_⟩:=g.holds1 enc hr hb
  have e2:(rows1 enc lt).length=lt.length:=by simp [rows1]
  rw [hv]
  simp only [e2]
  refine (S.some b 0 cap lt w hH (by omega) hle).mono ?_
  rintro e' w' ⟨rfl,q,F,hF,hp,rfl⟩
  have g1:=g.put1 enc h1c hr hb hr0 q F (cut lt) hF (by rw [hF]; exact S.len lt) hp
  refine hK _ _ (next _ _ _ (g1.putO hd' (v:=.own i) (fun r hr'=>.inr ⟨b,cap,by simp,?_⟩) (by simp)))
  have:r=⟨e,1,rows1 enc (cut lt)⟩:=by rw [St.row_newRow,if_pos rfl] at hr'; cases hr'; rfl
  rw [this]; simp [rows1]
end
end Go.Abs
end
