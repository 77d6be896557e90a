/- A part of the proof: App, Fn. -/
import Derived.Test.YtjbhhddfaohdnaaGreatDoorPSeq
import Derived.Laws.AppendOwn
set_option linter.all false
set_option linter.deprecated false
section
namespace Go.Abs
def srcOf (row:Nat→Option Row):SV→Option (List PD)
 | .pd (.list _ es)=>some es
 | .pd (.raw (.slice none 0 0))=>some []
 | .own j=>(row j).map (·.ds)
 | _=>none
section
variable {C:Cx} {s:St} {a:Act} {w w':World} {E:Env} {P:Program} {all:Array Oper} {l:List Oper} {k:List KI} {o:Oper}
theorem src_cells (g:Gam C s a w E) {u:Value} {x:SV} {es:List PD} (h:srcOf s.row x=some es) (hu:Rel C.P w E s.row u x) {sz:Nat} (hw:∀ i,i<es.length→(es.getD i (.tup [])).width=sz):
  ((∃ p,u = .slice p 0 0)∧es=[])∨∃ (b off c:Nat) (news:List Value),u = .slice (some ⟨b,off,none⟩) es.length c∧news.length=es.length * sz∧(∀ j v,news[j]? = some v→w.cell? ((⟨b,off,none⟩:Addr).add j)=some v)∧(∀ v∈news,v.oneCell'=true) ∧
   ∀ k j,k<es.length→j<sz→Rd w E.G (news.getD (k * sz+j) undef) ((es.getD k (.tup [])).cell j):=by
 have core:∀ b off,(∀ k j,k<es.length→j<sz→∃ v,w.cell? ⟨b,off+(k * sz+j),none⟩=some v∧Rd w E.G v ((es.getD k (.tup [])).cell j)) →
   ∃ news:List Value,news.length=es.length * sz∧(∀ j v,news[j]? = some v→w.cell? ((⟨b,off,none⟩:Addr).add j)=some v)∧(∀ v∈news,v.oneCell'=true)∧∀ k j,k<es.length→j<sz→Rd w E.G (news.getD (k * sz+j) undef) ((es.getD k (.tup [])).cell j):=by
  intro b off hc
  have hidx:∀ n,n<es.length * sz→∃ v,w.cell? ⟨b,off+n,none⟩=some v∧Rd w E.G v ((es.getD (n / sz) (.tup [])).cell (n % sz)):=by
   intro n hn
   have hsz:0<sz:=by rcases Nat.eq_zero_or_pos sz with h | h; simp [h] at hn; exact h
   have:=hc (n / sz) (n % sz) (Nat.div_lt_of_lt_mul (by rw [Nat.mul_comm]; exact hn)) (Nat.mod_lt _ hsz)
   rwa [Nat.mul_comm,Nat.div_add_mod] at this
  refine ⟨(List.range (es.length * sz)).map fun n=>(w.cell? ⟨b,off+n,none⟩).getD undef,by simp,fun j v hv=>?_,fun v hv=>?_,fun k j hk hj=>?_⟩
  ·have hj:j<es.length * sz:=by have:=(List.getElem?_eq_some_iff.1 hv).1; simpa using this
   obtain ⟨v',h1,_⟩:=hidx j hj
   simp only [List.getElem?_map,List.getElem?_range hj,Option.map_some,h1,Option.getD_some,Option.some.injEq] at hv
   subst hv
   rw [addr_add]; exact h1
  ·simp only [List.mem_map,List.mem_range] at hv
   obtain ⟨n,hn,rfl⟩:=hv
   obtain ⟨v',h1,h2⟩:=hidx n hn
   rw [h1]; exact h2.oneCell
  ·have hlt:k * sz+j<es.length * sz:=by
    have:k * sz+sz≤es.length * sz:=by rw [← Nat.succ_mul]; exact Nat.mul_le_mul_right _ hk
    omega
   obtain ⟨v,h1,h2⟩:=hc k j hk hj
   have e:((List.range (es.length * sz)).map fun n=>(w.cell? ⟨b,off+n,none⟩).getD undef).getD (k * sz+j) undef=v:=by
    simp [List.getD_eq_getElem?_getD,List.getElem?_range hlt,h1]
   rw [e]; exact h2
 cases x with
 | pd d=>cases d with
  | list sz' es'=>
   simp only [srcOf,Option.some.injEq] at h; subst h
   rcases Rd.list_elem hu with ⟨p,h1,h2⟩ | ⟨b,off,cap,rfl,_,_,hw',hr⟩
   ·exact .inl ⟨⟨p,h1⟩,h2⟩
   ·refine .inr ⟨b,off,cap,?_⟩
    obtain ⟨news,h1⟩:=core b off (fun k j hk hj=>by
     have hsz:sz'=sz:=by rw [← hw k hk,hw' k hk]
     subst hsz
     obtain ⟨_,v,hc,hr'⟩:=hr k hk j (by rw [hw' k hk]; exact hj)
     rw [Nat.add_assoc] at hc
     exact ⟨v,hc,hr'⟩)
    exact ⟨news,rfl,h1⟩
  | raw v=>
   have:=RdV.raw_eq hu; subst this
   unfold srcOf at h
   split at h <;> simp_all
  | tup _=>simp [srcOf] at h
  | clo _ _=>simp [srcOf] at h
  | mp _ _=>simp [srcOf] at h
 | own j=>
  simp only [srcOf] at h
  cases hj:s.row j with
  | none=>simp [hj] at h
  | some r=>
   simp [hj] at h; subst h
   rcases hu r hj with ⟨h1,rfl⟩ | ⟨b,cap,h1,rfl⟩
   ·exact .inl ⟨⟨none,rfl⟩,g.rb_nil j r hj h1⟩
   ·refine .inr ⟨b,0,cap,?_⟩
    obtain ⟨news,h2⟩:=core b 0 (fun k j' hk hj'=>by
     have hsz:r.sz=sz:=by rw [← hw k hk,g.row_width hj hk]
     subst hsz
     obtain ⟨v,hc,hr'⟩:=g.row_cell hj h1 hk hj'
     exact ⟨v,by simpa using hc,hr'⟩)
    exact ⟨news,rfl,h2⟩
 | _=>simp [srcOf] at h
theorem read_append {G:Pub} {sz:Nat} {ds es:List PD} {xs ys:List Value} (hx:xs.length=ds.length * sz)
  (h1:∀ k j,k<ds.length→j<sz→Rd w G (xs.getD (k * sz+j) undef) ((ds.getD k (.tup [])).cell j)) (h2:∀ k j,k<es.length→j<sz→Rd w G (ys.getD (k * sz+j) undef) ((es.getD k (.tup [])).cell j)) (zs:List Value):
  ys.length=es.length * sz→∀ k j,k<(ds++es).length→j<sz→Rd w G ((xs++ys++zs).getD (k * sz+j) undef) (((ds++es).getD k (.tup [])).cell j):=by
 intro hy k j hk hj
 simp only [List.getD_eq_getElem?_getD,List.append_assoc,List.length_append] at *
 by_cases c:k<ds.length
 ·have hlt:k * sz+j<xs.length:=by
   have:k * sz+sz≤ds.length * sz:=by rw [← Nat.succ_mul]; exact Nat.mul_le_mul_right _ c
   omega
  rw [List.getElem?_append_left hlt,List.getElem?_append_left c]
  exact h1 k j c hj
 ·have hk2:k - ds.length<es.length:=by omega
  have hsub:k * sz+j - xs.length=(k - ds.length) * sz+j:=by
   rw [hx,Nat.sub_mul]
   have:ds.length * sz≤k * sz:=Nat.mul_le_mul_right _ (by omega)
   omega
  have hge:xs.length≤k * sz+j:=by
   rw [hx]
   have:ds.length * sz≤k * sz:=Nat.mul_le_mul_right _ (by omega)
   omega
  have hlt:(k - ds.length) * sz+j<ys.length:=by
   have:(k - ds.length) * sz+sz≤es.length * sz:=by rw [← Nat.succ_mul]; exact Nat.mul_le_mul_right _ hk2
   omega
  rw [List.getElem?_append_right hge,hsub,List.getElem?_append_left hlt,List.getElem?_append_right (by omega)]
  exact h2 _ j hk2 hj
theorem getD_append_ds (ds es:List PD) (sz:Nat) (h1:∀ k,k<ds.length→(ds.getD k (.tup [])).width=sz) (h2:∀ k,k<es.length→(es.getD k (.tup [])).width=sz):∀ k,k<(ds++es).length→((ds++es).getD k (.tup [])).width=sz:=by
 intro k hk
 simp only [List.getD_eq_getElem?_getD,List.length_append] at *
 by_cases c:k<ds.length
 ·rw [List.getElem?_append_left c]; exact h1 k c
 ·rw [List.getElem?_append_right (by omega)]; exact h2 _ (by omega)
theorem keeps_alloc_drew (g:Gam C s a w E) (ob:Obj):Keeps w E.G (w.drew.alloc ob) E.G:=
 Keeps.of_below g.gw ((below_drew w).trans (below_alloc w.drew ob)) (fun _ _ h=>h)
theorem R.append {x y:Operand} {t t' e:TypeId} {i:Nat} {r:Row} {es:List PD} (ho:o.op = .call ⟨.builtin .append,#[x,y],#[t,t']⟩) (hg:o.guard=none) (hd:dstOk s o) (hx:evO s x = .own i) (hr:s.row i=some r) (hr0:C.rb0 i=none)
  (hy:srcOf s.row (evO s y)=some es) (he:slT C.P t=some e) (hre:r.e=e) (hz:szT C.P e=r.sz) (h0:r.sz≠0) (hzero:(zeroT C.P e).map List.length=some r.sz) (ht:t'=t)
  (hw:∀ i,i<es.length→(es.getD i (.tup [])).width=r.sz) (hb:(r.ds.length+es.length) * byT C.P e≤140737488355328) (hm:r.ds.length+es.length≤maxLen)
  (next:R C (.ops all l::k) ((s.newRow i ⟨e,r.sz,r.ds++es⟩).put o.dst (.own i))):R C (.ops all (o::l)::k) s:=by
 intro a w E g
 refine wpList_plain hg fun K hK=>?_
 subst ht
 have hu:=evO_ok g x; rw [hx] at hu
 have hv:=evO_ok g y
 have hund:=und_slT he
 obtain ⟨inf,hi⟩:∃ inf,C.P.info? e=some inf:=by
  unfold szT at hz
  cases h:C.P.info? e with
  | none=>simp [h] at hz; omega
  | some inf=>exact ⟨inf,rfl⟩
 have hsz:inf.size=r.sz:=by unfold szT at hz; simpa [hi] using hz
 have hby:inf.bytes=byT C.P e:=by unfold byT; simp [hi]
 obtain ⟨z,hzv,hzl⟩:∃ z,inf.zero=some z∧z.cells.size=r.sz:=by
  unfold zeroT at hzero
  cases h:inf.zero with
  | none=>simp [hi,h] at hzero
  | some z=>simp [hi,h] at hzero; exact ⟨z,rfl,hzero⟩
 have hsmall:r.ds.length+es.length≤9223372036854775807:=by simp only [maxLen] at hm; omega
 have fin:∀ (u':Value) (w':World) (place:Option (Nat × Nat)),(Builtin.append_ #[t',t'] o.type #[a.eval x,a.eval y]).run C.P w = .ok u' w' →
   Gam C (s.newRow i ⟨e,r.sz,r.ds++es⟩) a w' { E with rb:=fun j=>if j=i then place else E.rb j } →
   ((place=none∧u' = .slice none 0 0)∨∃ b cap,place=some (b,cap)∧u' = .slice (some ⟨b,0,none⟩) (r.ds++es).length cap)→o.wp C.P a w K (fin C k):=by
  intro u' w' place hrun g' hpl
  unfold Oper.wp execOp
  simp only [ho,resolve,invoke,builtin,Sem.run_bind,Sem.run_pure,Result.andThen_ok,List.map_toArray,List.map_cons,List.map_nil,hrun,Oper.upon_value]
  refine hK _ _ (next _ _ _ (g'.putO (o:=o) hd ?_ (by simp)))
  intro r' hr'
  rw [St.row_newRow,if_pos rfl] at hr'; cases hr'
  simp only [if_true]
  exact hpl
 have hnone:∀ (p0:Option Addr) u0,a.eval y = .slice p0 0 0→es=[]→u0=a.eval x→(∃ base n c,u0 = .slice base n c∧n≤c∧(base=none→n=0))→(Builtin.append_ #[t',t'] o.type #[a.eval x,a.eval y]).run C.P w = .ok u0 w:=by
  rintro p0 u0 hy0 _ hu0 ⟨base,n,c,rfl,hnc,hbn⟩
  rw [← hu0,hy0]
  cases base with
  | none=>cases p0 <;> simp [Builtin.append_,run_underlying hund,Go.sizeOf,typeInfo,hi,Builtin.lenOf,hnc,Builtin.firstCells,loadCells,loadCellsFrom,storeCells]
  | some ad=>cases p0 <;> simp [Builtin.append_,run_underlying hund,Go.sizeOf,typeInfo,hi,Builtin.lenOf,hnc,Builtin.firstCells,loadCells,loadCellsFrom,storeCells]
 have sameRow:es=[]→Gam C (s.newRow i ⟨e,r.sz,r.ds++es⟩) a w { E with rb:=fun j=>if j=i then E.rb i else E.rb j }:=by
  intro hes
  subst hes
  refine g.row (i:=i) (E.rb i) (Keeps.refl _ _) g.kept (Nat.le_refl _) (fun p hp=>g.rfix i p hp) (fun _ _ _=>rfl) ?_ (fun b cap h=>.inr ⟨r,(b,cap),hr,h,rfl⟩)
  rcases g.rows i r hr with ⟨h1,h2⟩ | ⟨b,cap,cur,h1,m,h2⟩
  ·exact .inl ⟨h1,by simp [h2]⟩
  ·refine .inr ⟨b,cap,cur,h1,by rw [← hre]; exact m,?_⟩
   simpa using h2
 have newBlock:∀ (xs news:List Value) (cap:Nat),xs.length=r.ds.length * r.sz→news.length=es.length * r.sz →
   (∀ k j,k<r.ds.length→j<r.sz→Rd w E.G (xs.getD (k * r.sz+j) undef) ((r.ds.getD k (.tup [])).cell j))→(∀ k j,k<es.length→j<r.sz→Rd w E.G (news.getD (k * r.sz+j) undef) ((es.getD k (.tup [])).cell j)) →
   r.ds.length+es.length≤cap→cap≤maxLen →
   Gam C (s.newRow i ⟨e,r.sz,r.ds++es⟩) a (w.drew.alloc (.cells (xs.toArray++news.toArray++Builtin.zeroCells z.cells (cap - (r.ds.length+es.length))) e)) { E with rb:=fun j=>if j=i then some (w.heap.size,cap) else E.rb j }:=by
  intro xs news cap hxs hnews hrx hrn hc1 hc2
  have hk:=keeps_alloc_drew g (.cells (xs.toArray++news.toArray++Builtin.zeroCells z.cells (cap - (r.ds.length+es.length))) e)
  refine g.row (i:=i) (some (w.heap.size,cap)) hk (g.kept.trans (.of_below ((below_drew w).trans (below_alloc w.drew _)))) (by simp) (fun p hp=>by rw [hr0] at hp; cases hp) (fun b hb _=>heap_alloc_old w.drew _ b hb) (.inr ⟨w.heap.size,cap,_,rfl,⟨.inl g.kept.size,fun o ho=>by have:=g.gw _ _ ho; omega,heap_alloc_new w.drew _⟩,?_,?_,hc2,?_,?_⟩) (fun b c h=>by cases h; exact .inl (Nat.le_refl _))
  ·simp only [Array.size_append,List.size_toArray,size_zeroCells,hzl,hxs,hnews,← Nat.add_mul]
   congr 1; omega
  ·simpa using hc1
  ·exact getD_append_ds r.ds es r.sz (fun k hk=>g.row_width hr hk) hw
  ·intro k j hk' hj
   have e1:(xs.toArray++news.toArray++Builtin.zeroCells z.cells (cap - (r.ds.length+es.length))).getD (k * r.sz+j) undef=(xs++news++(Builtin.zeroCells z.cells (cap - (r.ds.length+es.length))).toList).getD (k * r.sz+j) undef:=by
    simp only [Array.getD_eq_getD_getElem?,List.getD_eq_getElem?_getD,← Array.getElem?_toList,Array.toList_append]
   show Rd _ _ ((xs.toArray++news.toArray++Builtin.zeroCells z.cells (cap - (r.ds.length+es.length))).getD (k * r.sz+j) undef) _
   rw [e1]
   exact (read_append hxs hrx hrn _ hnews k j hk' hj).keep hk
 rcases src_cells g hy hv hw with ⟨⟨p0,hy0⟩,hes⟩ | ⟨b2,off,c,news,hy1,hnl,hnc,hn1,hnr⟩
 ·
  rcases hu r hr with ⟨h1,h2⟩ | ⟨b,cap,h1,h2⟩
  ·exact fin _ w (E.rb i) (hnone p0 (.slice none 0 0) hy0 hes h2.symm ⟨none,0,0,rfl,Nat.le_refl _,fun _=>rfl⟩) (sameRow hes) (.inl ⟨h1,rfl⟩)
  ·have hcap:r.ds.length≤cap:=by
    rcases g.rows i r hr with ⟨h3,_⟩ | ⟨b',cap',cur,h3,_,_,h4,_⟩
    ·rw [h3] at h1; cases h1
    ·rw [h3] at h1; cases h1; exact h4
   exact fin _ w (E.rb i) (hnone p0 _ hy0 hes h2.symm ⟨some ⟨b,0,none⟩,r.ds.length,cap,rfl,hcap,by simp⟩) (sameRow hes) (.inr ⟨b,cap,h1,by simp [hes]⟩)
 ·rcases hu r hr with ⟨h1,h2⟩ | ⟨b,cap,h1,h2⟩
  ·have hds:=g.rb_nil i r hr h1
   by_cases hm0:es.length=0
   ·have hes:es=[]:=List.eq_nil_of_length_eq_zero hm0
    refine fin (.slice none 0 0) w (E.rb i) ?_ (sameRow hes) (.inl ⟨h1,rfl⟩)
    rw [h2,hy1,hm0]
    simp [Builtin.append_,run_underlying hund,Go.sizeOf,typeInfo,hi,Builtin.lenOf,Builtin.firstCells,loadCells,loadCellsFrom]
   ·have hrun:=run_append_nil (P:=C.P) w t' o.type e inf z hund hi hzv ⟨b2,off,none⟩ es.length c news (by rw [hsz]; exact hnl) hnc (by omega) (by omega) (by rw [hby]; rw [hds] at hb; simp only [List.length_nil,Nat.zero_add] at hb; omega)
    rw [← h2,← hy1] at hrun
    have hge:=grownCap_ge w es.length 0 e
    have hle:=grownCap_le_maxLen w es.length 0 e (by omega)
    have g':=newBlock [] news (grownCap w es.length 0 e) (by simp [hds]) hnl (fun k j hk _=>by simp [hds] at hk) hnr (by simp [hds]; exact hge) hle
    refine fin _ _ (some (w.heap.size,grownCap w es.length 0 e)) hrun ?_ (.inr ⟨_,_,rfl,by simp [hds]⟩)
    simpa [hds] using g'
  ·rcases g.rows i r hr with ⟨h3,_⟩ | ⟨b',cap',cur,h3,m,hcs,hcl,hcm,_,hrd⟩
   ·rw [h3] at h1; cases h1
   ·rw [h3] at h1; cases h1
    rw [hre] at m
    have hxl:(cur.toList.take (r.ds.length * r.sz)).length=r.ds.length * r.sz:=by
     have:r.ds.length * r.sz≤cap * r.sz:=Nat.mul_le_mul_right _ hcl
     simp; omega
    have hxr:∀ k j,k<r.ds.length→j<r.sz→Rd w E.G ((cur.toList.take (r.ds.length * r.sz)).getD (k * r.sz+j) undef) ((r.ds.getD k (.tup [])).cell j):=by
     intro k j hk hj
     have hlt:k * r.sz+j<r.ds.length * r.sz:=by
      have:k * r.sz+r.sz≤r.ds.length * r.sz:=by rw [← Nat.succ_mul]; exact Nat.mul_le_mul_right _ hk
      omega
     have:=hrd k j hk hj
     rw [Array.getD_eq_getD_getElem?] at this
     rw [List.getD_eq_getElem?_getD,List.getElem?_take,if_pos hlt,Array.getElem?_toList]
     exact this
    by_cases hroom:r.ds.length+es.length≤cap
    ·have hfit:r.ds.length * inf.size+news.length≤cur.size:=by rw [hnl,hsz,hcs,← Nat.add_mul]; exact Nat.mul_le_mul_right _ hroom
     have hrun:=run_append_room (P:=C.P) w t' o.type e inf hund hi b r.ds.length cap cur m.2.2 ⟨b2,off,none⟩ es.length c news (by rw [hsz]; exact hnl) hnc hn1 hroom hfit
     rw [← h2,← hy1,hsz] at hrun
     have hk:Keeps w E.G (w.setRow b (cur.toList.take (r.ds.length * r.sz)++news++cur.toList.drop (r.ds.length * r.sz+news.length)).toArray) E.G:=keeps_setRow _ m.2.1
     refine fin _ _ (some (b,cap)) hrun ?_ (.inr ⟨b,cap,rfl,by simp⟩)
     refine g.row (i:=i) (some (b,cap)) hk (kept_setRow g.kept _ m.1) (by simp [World.setRow]) (fun p hp=>by rw [hr0] at hp; cases hp) (fun b0 hb0 hne=>setRow_other w b b0 _ (hne r (b,cap) hr h3)) (.inr ⟨b,cap,_,rfl,m.set,?_,by simpa using hroom,hcm,?_,?_⟩) (fun b0 c0 h=>by cases h; exact .inr ⟨r,(b,cap),hr,h3,rfl⟩)
     ·simp only [List.size_toArray,List.length_append,hxl,List.length_drop,Array.length_toList,hnl,hcs]
      have:(r.ds.length+es.length) * r.sz≤cap * r.sz:=Nat.mul_le_mul_right _ hroom
      rw [Nat.add_mul] at this
      omega
     ·exact getD_append_ds r.ds es r.sz (fun k hk=>g.row_width hr hk) hw
     ·intro k j hk' hj
      have e1:(cur.toList.take (r.ds.length * r.sz)++news++cur.toList.drop (r.ds.length * r.sz+news.length)).toArray.getD (k * r.sz+j) undef=(cur.toList.take (r.ds.length * r.sz)++news++cur.toList.drop (r.ds.length * r.sz+news.length)).getD (k * r.sz+j) undef:=by
       rw [Array.getD_eq_getD_getElem?,List.getD_eq_getElem?_getD,List.getElem?_toArray]
      show Rd _ _ ((cur.toList.take (r.ds.length * r.sz)++news++cur.toList.drop (r.ds.length * r.sz+news.length)).toArray.getD (k * r.sz+j) undef) _
      rw [e1]
      exact (read_append hxl hxr hnr _ hnl k j hk' hj).keep hk
    ·have holds:∀ j v,(cur.toList.take (r.ds.length * r.sz))[j]? = some v→w.cell? ((⟨b,0,none⟩:Addr).add j)=some v:=by
      intro j v hv
      rw [addr_add,Nat.zero_add,cell_of_row w b j cur e _ m.2.2]
      rw [List.getElem?_take] at hv
      split at hv
      ·simpa using hv
      ·cases hv
     have hrun:=run_append_grow (P:=C.P) w t' o.type e inf z hund hi hzv ⟨b,0,none⟩ r.ds.length cap (cur.toList.take (r.ds.length * r.sz)) (by rw [hsz]; exact hxl) holds ⟨b2,off,none⟩ es.length c news (by rw [hsz]; exact hnl) hnc (by omega) (by omega) (growslice_fits (by omega) (by rw [hby]; exact hb))
     rw [← h2,← hy1] at hrun
     have hge:=grownCap_ge w (r.ds.length+es.length) cap e
     have hle:=grownCap_le_maxLen w (r.ds.length+es.length) cap e hm
     exact fin _ _ (some (w.heap.size,grownCap w (r.ds.length+es.length) cap e)) hrun (newBlock _ news _ hxl hnl hxr hnr hge hle) (.inr ⟨_,_,rfl,by simp⟩)
end
end Go.Abs
end
section
namespace Go.Abs
def slotsOf (n:Nat):List SV→List (Nat × SV)
 | []=>[]
 | x::l=>(n,x)::slotsOf (n+1) l
theorem lk_slotsOf:∀ (l:List SV) (n t:Nat),lk t (slotsOf n l)=if n≤t then l[t - n]? else none
 | [],n,t=>by simp [slotsOf,lk]
 | x::l,n,t=>by
  simp only [slotsOf,lk,lk_slotsOf l (n+1) t]
  by_cases h:n=t
  ·subst h; simp
  ·by_cases h2:n≤t
   ·rw [if_neg h,if_pos (by omega),if_pos h2]
    have:t - n=(t - (n+1))+1:=by omega
    rw [this,List.getElem?_cons_succ]
   ·rw [if_neg h,if_neg (by omega),if_neg h2]
def St.start (n:Nat) (args:List SV):St:=⟨n,slotsOf 0 args,[],[],[],[]⟩
theorem ArgOk.rel {P:Program} {w:World} {G:Pub} {v:Value} {x:SV} {E:Env} (hE:E.G=G) {row:Nat→Option Row} (h:ArgOk P w G v x):Rel P w E row v x∧∀ cs,x≠.box cs:=by
 subst hE
 cases x with
 | dead=>exact ⟨trivial,by simp⟩
 | pd d=>exact ⟨h,by simp⟩
 | ref d off=>exact ⟨h,by simp⟩
 | fn F=>exact ⟨h,by simp⟩
 | _=>exact h.elim
def Cx.fn (P:Program) (fn:Func) (w:World) (G:Pub) (rs:List PD):Cx:={ P:=P,w0:=w,G0:=G,post:=bodyPost P fn (PureRet w G rs) }
theorem FnC.mk {P:Program} {f:FuncId} {fn:Func} {c:Code} {args:List SV} {rs:List PD} (hf:P.funcs[f]? = some fn) (hb:fn.body=some c) (he:Ent P f) (hn:args.length≤fn.ntmps)
  (h:∀ w G,R (Cx.fn P fn w G rs) [.code c] (St.start fn.ntmps args)):FnC P f args rs:=by
 refine ⟨he,fun w G vals hG hs hv=>?_⟩
 refine calls_of_wp hf hb ?_
 let E:Env:=⟨G,fun _=>0,fun _=>none,fun _=>0⟩
 have hget:∀ t,(St.start fn.ntmps args).get t=args.getD t .dead:=by
  intro t; simp only [St.get,St.start,lk_slotsOf]; simp [List.getD_eq_getElem?_getD]
 have hslot:∀ t,ArgOk P w G ((vals++Array.replicate (fn.ntmps - vals.size) undef).getD t undef) (args.getD t .dead):=by
  intro t
  by_cases ht:t<args.length
  ·have h1:t<vals.size:=by omega
   have:(vals++Array.replicate (fn.ntmps - vals.size) undef).getD t undef=vals.getD t undef:=by
    simp only [Array.getD_eq_getD_getElem?,Array.getElem?_append_left h1]
   rw [this]; exact hv t ht
  ·have:args.getD t .dead = .dead:=by simp [List.getD_eq_getElem?_getD,List.getElem?_eq_none (Nat.le_of_not_lt ht)]
   rw [this]; trivial
 have nb:∀ t cs,(St.start fn.ntmps args).get t≠.box cs:=fun t cs=>by rw [hget]; exact ((hslot t).rel (E:=E) rfl (row:=fun _=>none)).2 cs
 have g:Gam (Cx.fn P fn w G rs) (St.start fn.ntmps args) { tmps:=vals++Array.replicate (fn.ntmps - vals.size) undef,defers:=[] } w E:={
  kept:=Kept.refl _ _ _
  ghosts:=fun t=>by simp only [St.gget,St.start,lk,Option.getD_none]; trivial
  maps:=fun r m h=>by simp [St.map,St.start,lk] at h
  vfix:=fun t b h=>by cases h
  rfix:=fun i p h=>by cases h
  rnew:=fun i r p h=>by simp [St.row,St.start,lk] at h
  defers:=rfl
  size:=by simp only [Array.size_append,Array.size_replicate]; show _=fn.ntmps; omega
  g0:=fun _ _ h=>h
  g1:=fun _ _ h=>.inl h
  tab:=hG.tab
  gw:=hG.lt
  slots:=fun t=>by rw [hget]; exact ((hslot t).rel rfl).1
  vars:=fun t cs h=>by simp [St.var,St.start,lk] at h
  rows:=fun i r h=>by simp [St.row,St.start,lk] at h
  boxes:=fun t cs h=>(nb t cs h).elim
  vv:=fun t t' cs cs' h=>by simp [St.var,St.start,lk] at h
  rr:=fun i i' r r' p h=>by simp [St.row,St.start,lk] at h
  vr:=fun t cs i r p h=>by simp [St.var,St.start,lk] at h
  bb:=fun t t' cs cs' h=>(nb t cs h).elim
  bv:=fun t t' cs cs' h=>(nb t cs h).elim
  br:=fun t cs i r p h=>(nb t cs h).elim }
 have:=h w G _ w E g
 simp only [fin] at this
 exact wp_mono this (fun e a w h=>h)
def Cx.fnW (P:Program) (fn:Func) (w:World) (G:Pub) (rs:List PD):Cx:={ P:=P,w0:=w,G0:=G,post:=bodyPost P fn (PureRetW w G rs),dr:=false }
theorem FnW.mk {P:Program} {f:FuncId} {fn:Func} {c:Code} {args:List SV} {rs:List PD} (hf:P.funcs[f]? = some fn) (hb:fn.body=some c) (he:Ent P f) (hn:args.length≤fn.ntmps)
  (h:∀ w G,R (Cx.fnW P fn w G rs) [.code c] (St.start fn.ntmps args)):FnW P f args rs:=by
 refine ⟨he,fun w G vals hG hs hv=>?_⟩
 refine calls_of_wp hf hb ?_
 let E:Env:=⟨G,fun _=>0,fun _=>none,fun _=>0⟩
 have hget:∀ t,(St.start fn.ntmps args).get t=args.getD t .dead:=by
  intro t; simp only [St.get,St.start,lk_slotsOf]; simp [List.getD_eq_getElem?_getD]
 have hslot:∀ t,ArgOk P w G ((vals++Array.replicate (fn.ntmps - vals.size) undef).getD t undef) (args.getD t .dead):=by
  intro t
  by_cases ht:t<args.length
  ·have h1:t<vals.size:=by omega
   have:(vals++Array.replicate (fn.ntmps - vals.size) undef).getD t undef=vals.getD t undef:=by
    simp only [Array.getD_eq_getD_getElem?,Array.getElem?_append_left h1]
   rw [this]; exact hv t ht
  ·have:args.getD t .dead = .dead:=by simp [List.getD_eq_getElem?_getD,List.getElem?_eq_none (Nat.le_of_not_lt ht)]
   rw [this]; trivial
 have nb:∀ t cs,(St.start fn.ntmps args).get t≠.box cs:=fun t cs=>by rw [hget]; exact ((hslot t).rel (E:=E) rfl (row:=fun _=>none)).2 cs
 have g:Gam (Cx.fnW P fn w G rs) (St.start fn.ntmps args) { tmps:=vals++Array.replicate (fn.ntmps - vals.size) undef,defers:=[] } w E:={
  kept:=Kept.refl _ _ _
  ghosts:=fun t=>by simp only [St.gget,St.start,lk,Option.getD_none]; trivial
  maps:=fun r m h=>by simp [St.map,St.start,lk] at h
  vfix:=fun t b h=>by cases h
  rfix:=fun i p h=>by cases h
  rnew:=fun i r p h=>by simp [St.row,St.start,lk] at h
  defers:=rfl
  size:=by simp only [Array.size_append,Array.size_replicate]; show _=fn.ntmps; omega
  g0:=fun _ _ h=>h
  g1:=fun _ _ h=>.inl h
  tab:=hG.tab
  gw:=hG.lt
  slots:=fun t=>by rw [hget]; exact ((hslot t).rel rfl).1
  vars:=fun t cs h=>by simp [St.var,St.start,lk] at h
  rows:=fun i r h=>by simp [St.row,St.start,lk] at h
  boxes:=fun t cs h=>(nb t cs h).elim
  vv:=fun t t' cs cs' h=>by simp [St.var,St.start,lk] at h
  rr:=fun i i' r r' p h=>by simp [St.row,St.start,lk] at h
  vr:=fun t cs i r p h=>by simp [St.var,St.start,lk] at h
  bb:=fun t t' cs cs' h=>(nb t cs h).elim
  bv:=fun t t' cs cs' h=>(nb t cs h).elim
  br:=fun t cs i r p h=>(nb t cs h).elim }
 have:=h w G _ w E g
 simp only [fin] at this
 exact wp_mono this (fun e a w h=>h)
section
variable {C:Cx} {s:St} {a:Act} {w w':World} {E:Env} {P:Program} {k:List KI}
def resD (P:Program) (s:St):List ResultVar→Option (Prop × List PD)
 | []=>some (True,[])
 | .tmp t::l=>match s.get t,resD P s l with
  | .pd d,some (p,ds)=>some (p,d::ds)
  | _,_=>none
 | .cell t ty::l=>match ayLoad P s.var s.row ty (s.get t),resD P s l with
  | some (vc,.pd d),some (p,ds)=>some (vc∧p,d::ds)
  | _,_=>none
theorem loadAt_ptr {t:TypeId} {u u':Value} (h:(Instr.loadAt t u).run P w = .ok u' w'):∃ ad,u = .pointer (some ad)∧(loadVar t ad).run P w = .ok u' w':=by
 cases u with
 | pointer p=>cases p with
  | none=>simp [Instr.loadAt,Instr.sureAddr] at h
  | some ad=>exact ⟨ad,rfl,by simpa [Instr.loadAt,Instr.sureAddr] using h⟩
 | _=>simp [Instr.loadAt,Instr.sureAddr] at h
def resM (tm:Array Value):ResultVar→Sem Value
 | .tmp t=>pure (tm.getD t undef)
 | .cell ad t=>do loadVar t (← asAddr (tm.getD ad undef))
theorem results_eq (fn:Func) (tm:Array Value):results fn tm=(do let vs ← fn.results.mapM (resM tm); pure (if h:vs.size=1 then vs[0] else .tuple vs)):=by
 unfold results
 congr 2
theorem results_ok (g:Gam C s a w E):∀ {rv:List ResultVar} {vc:Prop} {rs:List PD},resD C.P s rv=some (vc,rs)→vc →
  ∃ vs:List Value,(rv.mapM (resM a.tmps)).run C.P w = .ok vs w∧vs.length=rs.length∧∀ j,j<rs.length→RdV w E.G (vs.getD j undef) (rs.getD j (.tup []))
 | [],vc,rs,h,_=>by
  simp only [resD,Option.some.injEq,Prod.mk.injEq] at h
  obtain ⟨_,rfl⟩:=h
  exact ⟨[],rfl,rfl,fun j hj=>by simp at hj⟩
 | .tmp t::l,vc,rs,h,hvc=>by
  simp only [resD] at h
  split at h
  ·rename_i d p ds hd hl
   cases h
   obtain ⟨vs,h1,h2,h3⟩:=results_ok g hl hvc
   refine ⟨a.tmps.getD t undef::vs,?_,by simp [h2],fun j hj=>?_⟩
   ·simp only [List.mapM_cons,resM,Sem.run_bind,Sem.run_pure,Result.andThen_ok,h1]
   ·cases j with
    | zero=>have:=g.slots t; rw [hd] at this; exact this
    | succ j=>simpa using h3 j (by simpa using hj)
  ·cases h
 | .cell t ty::l,vc,rs,h,hvc=>by
  simp only [resD] at h
  split at h
  ·rename_i vc' d p ds hd hl
   cases h
   obtain ⟨vs,h1,h2,h3⟩:=results_ok g hl hvc.2
   obtain ⟨u,hu,hr⟩:=ayLoad_ok g hd hvc.1 (g.slots t)
   obtain ⟨ad,he,hload⟩:=loadAt_ptr hu
   refine ⟨u::vs,?_,by simp [h2],fun j hj=>?_⟩
   ·simp only [List.mapM_cons,resM,Sem.run_bind,he,asAddr,Sem.run_pure,Result.andThen_ok,hload,h1]
   ·cases j with
    | zero=>exact hr
    | succ j=>simpa using h3 j (by simpa using hj)
  ·cases h
theorem post_ok {fn:Func} {vc:Prop} {rs:List PD} {G:Pub} (g:Gam (Cx.fn P fn w' G rs) s a w E) (h:resD P s fn.results.toList=some (vc,rs)) (hvc:vc):
  a.defers=[]∧∃ v,(results fn a.tmps).run P w = .ok v w∧PureRet w' G rs (.returned v) w:=by
 refine ⟨g.defers,?_⟩
 obtain ⟨vs,h1,h2,h3⟩:=results_ok g h hvc
 have hk:Keeps w E.G w (G.new w'.heap.size):=.same fun b o h=>g.g1 b o h
 have hm:(fn.results.mapM (resM a.tmps)).run P w = .ok vs.toArray w:=by
  rw [← Array.toArray_toList (xs:=fn.results),List.mapM_toArray,Sem.run_map]
  have h1':=h1
  simp only [Cx.fn] at h1'
  rw [h1']; rfl
 refine ⟨if h:vs.toArray.size=1 then vs.toArray[0] else .tuple vs.toArray,?_,_,rfl,?_,g.kept.below⟩
 ·rw [results_eq,Sem.run_bind,hm]; rfl
 ·unfold RetV
  split
  ·rename_i d
   have hl:vs.length=1:=by simpa using h2
   have:=h3 0 (by simp)
   obtain ⟨v,rfl⟩:=List.length_eq_one_iff.1 hl
   simpa using (this.keep hk)
  ·rename_i hne
   have hl:¬ vs.toArray.size=1:=by
    intro h
    have:rs.length=1:=by simpa [← h2] using h
    obtain ⟨d,rfl⟩:=List.length_eq_one_iff.1 this
    exact hne d rfl
   rw [dif_neg hl]
   refine ⟨vs.toArray,rfl,by simp [h2],fun j hj=>?_⟩
   have:=(h3 j hj).keep hk
   simpa [Array.getD_eq_getD_getElem?,List.getD_eq_getElem?_getD] using this
theorem R.retC {fn:Func} {vc:Prop} {rs:List PD} {w0:World} {G:Pub} (h:resD P s fn.results.toList=some (vc,rs)) (hvc:vc):R (Cx.fn P fn w0 G rs) (.code .ret::k) s:=
 R.ret fun _ _ _ g=>post_ok g h hvc
theorem R.overC {fn:Func} {vc:Prop} {rs:List PD} {w0:World} {G:Pub} (h:resD P s fn.results.toList=some (vc,rs)) (hvc:vc):R (Cx.fn P fn w0 G rs) [] s:=
 R.over fun _ _ _ g=>post_ok g h hvc
theorem postW_ok {fn:Func} {vc:Prop} {rs:List PD} {G:Pub} (g:Gam (Cx.fnW P fn w' G rs) s a w E) (h:resD P s fn.results.toList=some (vc,rs)) (hvc:vc):
  a.defers=[]∧∃ v,(results fn a.tmps).run P w = .ok v w∧PureRetW w' G rs (.returned v) w:=by
 refine ⟨g.defers,?_⟩
 obtain ⟨vs,h1,h2,h3⟩:=results_ok g h hvc
 have hk:Keeps w E.G w (G.new w'.heap.size):=.same fun b o h=>g.g1 b o h
 have hm:(fn.results.mapM (resM a.tmps)).run P w = .ok vs.toArray w:=by
  rw [← Array.toArray_toList (xs:=fn.results),List.mapM_toArray,Sem.run_map]
  have h1':=h1
  simp only [Cx.fnW] at h1'
  rw [h1']; rfl
 refine ⟨if h:vs.toArray.size=1 then vs.toArray[0] else .tuple vs.toArray,?_,_,rfl,?_,g.kept.belowW⟩
 ·rw [results_eq,Sem.run_bind,hm]; rfl
 ·unfold RetV
  split
  ·rename_i d
   have hl:vs.length=1:=by simpa using h2
   have:=h3 0 (by simp)
   obtain ⟨v,rfl⟩:=List.length_eq_one_iff.1 hl
   simpa using (this.keep hk)
  ·rename_i hne
   have hl:¬ vs.toArray.size=1:=by
    intro h
    have:rs.length=1:=by simpa [← h2] using h
    obtain ⟨d,rfl⟩:=List.length_eq_one_iff.1 this
    exact hne d rfl
   rw [dif_neg hl]
   refine ⟨vs.toArray,rfl,by simp [h2],fun j hj=>?_⟩
   have:=(h3 j hj).keep hk
   simpa [Array.getD_eq_getD_getElem?,List.getD_eq_getElem?_getD] using this
theorem R.retW {fn:Func} {vc:Prop} {rs:List PD} {w0:World} {G:Pub} (h:resD P s fn.results.toList=some (vc,rs)) (hvc:vc):R (Cx.fnW P fn w0 G rs) (.code .ret::k) s:=
 R.ret fun _ _ _ g=>postW_ok g h hvc
theorem R.overW {fn:Func} {vc:Prop} {rs:List PD} {w0:World} {G:Pub} (h:resD P s fn.results.toList=some (vc,rs)) (hvc:vc):R (Cx.fnW P fn w0 G rs) [] s:=
 R.over fun _ _ _ g=>postW_ok g h hvc
end
end Go.Abs
end
