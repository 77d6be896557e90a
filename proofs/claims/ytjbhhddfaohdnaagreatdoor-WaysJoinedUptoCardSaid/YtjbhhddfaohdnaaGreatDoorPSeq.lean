/- A part of the proof: Y2, Row, Seq. -/
import Derived.Test.YtjbhhddfaohdnaaGreatDoorPLook
set_option linter.all false
set_option linter.deprecated false
section
namespace Go.Abs
section
variable {C:Cx} {s:St} {a:Act} {w:World} {E:Env} {P:Program}
def flat (vs:List Value):List Value:=vs.flatMap fun v=>v.cells.toList
theorem flat_get {sz:Nat}:∀ {vs:List Value},(∀ v∈vs,v.cells.size=sz)→∀ i j,i<vs.length→j<sz→(flat vs)[i * sz+j]? = (vs.getD i undef).cells[j]?
 | [],_,i,j,hi,_=>by simp at hi
 | v::vs,h,i,j,hi,hj=>by
  have h1:=h v (List.mem_cons_self ..)
  simp only [flat,List.flatMap_cons]
  cases i with
  | zero=>
   rw [Nat.zero_mul,Nat.zero_add,List.getElem?_append_left (by simp; omega)]
   simp
  | succ i=>
   rw [List.getElem?_append_right (by simp [h1,Nat.succ_mul]; omega)]
   have ih:=flat_get (vs:=vs) (fun x hx=>h x (List.mem_cons_of_mem _ hx)) i j (by simpa using hi) hj
   have e:(i+1) * sz+j - v.cells.toList.length=i * sz+j:=by simp [h1,Nat.succ_mul]; omega
   rw [e]
   simpa [flat] using ih
theorem fill_flat {sz:Nat}:∀ (vs:List Value) (k:Nat) (cs:Array Value),(∀ v∈vs,v.cells.size=sz)→(k+vs.length) * sz≤cs.size →
  ∃ cells,Instr.fill (fun i=>some (i * sz,sz)) cs ((List.range' k vs.length).zip vs)=some cells∧cells.toList=cs.toList.take (k * sz)++flat vs++cs.toList.drop ((k+vs.length) * sz)
 | [],k,cs,_,_=>⟨cs,by simp [Instr.fill],by simp [flat]⟩
 | v::vs,k,cs,h,hle=>by
  have h1:=h v (List.mem_cons_self ..)
  simp only [List.length_cons] at hle
  have e0:(k+(vs.length+1)) * sz=k * sz+sz+vs.length * sz:=by rw [Nat.add_mul,Nat.succ_mul]; omega
  have hsp:=fill_splice v.cells.toList cs (k * sz) (by simp [h1]; omega)
  have hfold:(v.cells.zipIdx.foldl (fun cs (p:Value × Nat)=>cs.setIfInBounds (k * sz+p.2) p.1) cs)=((v.cells.toList.zipIdx).foldl (fun cs (p:Value × Nat)=>cs.setIfInBounds (k * sz+p.2) p.1) cs):=by
   rw [← Array.foldl_toList]; simp
  generalize hc:(v.cells.zipIdx.foldl (fun cs (p:Value × Nat)=>cs.setIfInBounds (k * sz+p.2) p.1) cs)=c1 at hfold
  rw [← hfold] at hsp
  have hlen:c1.size=cs.size:=by
   have:=congrArg List.length hsp
   simp [h1] at this; omega
  obtain ⟨cells,hf,ht⟩:=fill_flat vs (k+1) c1 (fun x hx=>h x (List.mem_cons_of_mem _ hx)) (by rw [hlen,Nat.add_mul,Nat.add_mul]; omega)
  refine ⟨cells,?_,?_⟩
  ·simp only [List.length_cons,List.range'_succ,List.zip_cons_cons,Instr.fill]
   have hcond:¬ ((decide (v.cells.size≠sz) || decide (k * sz+v.cells.size > cs.size))=true):=by simp [h1]; omega
   rw [if_neg hcond]
   rw [hc]
   exact hf
  ·rw [ht,hsp]
   have l1:(cs.toList.take (k * sz)++v.cells.toList).length=(k+1) * sz:=by simp [h1,Nat.succ_mul]; omega
   rw [List.take_append_of_le_length (by omega),List.take_of_length_le (by omega)]
   have e1:(k+1+vs.length) * sz=(cs.toList.take (k * sz)++v.cells.toList).length+vs.length * sz:=by rw [l1,Nat.add_mul]
   rw [e1,List.drop_append,List.drop_drop]
   have e2:k * sz+v.cells.toList.length+((cs.toList.take (k * sz)++v.cells.toList).length+vs.length * sz - (cs.toList.take (k * sz)++v.cells.toList).length)=(k+(v::vs).length) * sz:=by
    simp only [Array.length_toList,h1,List.length_cons]; omega
   rw [e2,List.drop_eq_nil_of_le (by omega)]
   simp [flat,List.append_assoc]
theorem RdV.cells_size {G:Pub} {v:Value} {d:PD} (h:RdV w G v d):v.cells.size=d.width:=by
 have:=(RdV.cells h).1; rw [PD.length_cells] at this; simpa using this
theorem RdV.cell_get {G:Pub} {v:Value} {d:PD} (h:RdV w G v d) {j:Nat} (hj:j<d.width):∃ u,v.cells[j]? = some u∧Rd w G u (d.cell j):=by
 have h1:=RdV.cells h
 have h2:=h1.2 j (by rw [PD.length_cells]; exact hj)
 have hs:=RdV.cells_size h
 have hl:j<v.cells.size:=by omega
 refine ⟨v.cells[j],by simp [hl],?_⟩
 rw [PD.getD_cells d j hj] at h2
 simpa [hl] using h2
theorem rows_read {G:Pub} {sz b:Nat} {vs:List Value} {ds:List PD} {cells:List Value} {e:TypeId} {w':World} (k:Keeps w G w' G) (hl:vs.length=ds.length) (hr:∀ i,i<ds.length→RdV w G (vs.getD i undef) (ds.getD i (.tup [])))
  (hw:∀ i,i<ds.length→(ds.getD i (.tup [])).width=sz) (hc:cells=flat vs) (hb:w'.heap[b]? = some (.cells cells.toArray e (0,0))) (G':Pub) (hG:∀ b o,G b o→G' b o) (hpub:∀ o,G' b o) (i:Nat) (hi:i<ds.length):
  RdAt w' G' b (0+i * sz) (ds.getD i (.tup [])):=by
 have hsz:∀ v∈vs,v.cells.size=sz:=by
  intro v hv
  obtain ⟨n,hn,rfl⟩:=List.getElem_of_mem hv
  have:=(hr n (by omega)).cells_size
  rw [hw n (by omega)] at this
  simpa [hn] using this
 intro j hj
 have hj2:j<sz:=by rw [hw i hi] at hj; exact hj
 obtain ⟨u,h1,h2⟩:=(hr i hi).cell_get hj
 refine ⟨hpub _,u,?_,h2.keep (k.trans (.same hG))⟩
 rw [cell_of_row w' b _ _ e _ hb]
 have:=flat_get hsz i j (by omega) hj2
 rw [Nat.zero_add]
 simp only [List.getElem?_toArray,hc]
 rw [this,h1]
theorem run_buildSlice {t e:TypeId} {n sz:Nat} {parts:Array (Nat × Value)} {vs:List Value} (he:slT P t=some e) (hz:szT P e=sz) (h0:sz≠0) (hn:n * sz≤16777216) (hzero:(zeroT P e).isSome=true)
  (hp:parts.toList=(List.range n).zip vs) (hl:vs.length=n) (hs:∀ v∈vs,v.cells.size=sz):
  (Instr.buildSlice t n parts).run P w = .ok (.slice (some ⟨w.heap.size,0,none⟩) n n) (w.alloc (.cells (flat vs).toArray e)):=by
 obtain ⟨zs,hzs⟩:=Option.isSome_iff_exists.1 hzero
 obtain ⟨z,hzr,_⟩:=run_zeroT (P:=P) (w:=w) hzs
 have hsz:(sizeOf e).run P w = .ok sz w:=by rw [← hz]; exact run_szT (by omega)
 have hbig:¬ (n * sz > 2 ^ 24):=by simpa using hn
 have hfill:∀ base:Array Value,base.size=n * sz→Instr.fill (fun i=>some (i * sz,sz)) base parts.toList=some (flat vs).toArray:=by
  intro base hbs
  obtain ⟨cells,hf,ht⟩:=fill_flat (sz:=sz) vs 0 base hs (by rw [Nat.zero_add,hl]; omega)
  rw [hp,← hl,List.range_eq_range',hf]
  congr 1
  apply Array.ext'
  rw [ht]
  have:base.toList.drop ((0+vs.length) * sz)=[]:=List.drop_eq_nil_of_le (by simp [hbs,hl])
  rw [this]; simp
 simp only [Instr.buildSlice,Sem.run_bind,run_underlying (und_slT he),Result.andThen_ok,hsz]
 rw [if_neg hbig]
 by_cases hn0:n * sz=0
 ·rw [if_pos hn0]
  simp only [Sem.run_bind,Sem.run_pure,Result.andThen_ok]
  rw [hfill _ (by simp)]
  rfl
 ·rw [if_neg hn0]
  simp only [Sem.run_bind,Sem.run_pure,Result.andThen_ok,hzr]
  rw [hfill _ (by simp)]
  rfl
theorem run_call {f:FuncId} (he:Ent P f) (ρ:Operand→Value) (o:Oper) (fo:Operand) (xs:Array Operand) (ts:Array TypeId) (cap:Array Value) (ho:o.op = .call ⟨.value fo,xs,ts⟩) (first:Array Value) (hfo:ρ fo = .func (.func f) first cap):
  (execOp ρ o).run P w = .ok (.enter f (first++xs.map ρ++cap)) w:=by
 unfold execOp
 simp only [ho,resolve,hfo,Deferred.ofValue,Sem.run_bind,Sem.run_pure,Result.andThen_ok,invoke]
 exact he _ w
theorem Y.ok (g:Gam C s a w E) {o:Oper} {ρ:Operand→SV} {v:SV} (hρ:∀ x∈o.op.operands,Rel C.P w E s.row (a.eval x) (ρ x)) (hd:dstOk s o) (h:Y C.dr C.P s.var s.row ρ o v) {K:Act→World→Prop} {Q:Exit→Act→World→Prop}
  (hK:∀ u w' E',Gam C (s.put o.dst v) (a.put o.dst u) w' E'→K (a.put o.dst u) w'):o.wp C.P a w K Q:=by
 have enter:∀ (f:FuncId) (vals:Array Value),(execOp a.eval o).run C.P w = .ok (.enter f vals) w→∀ x:SV,(∀ cs,x≠.box cs)→v=x →
   (Calls C.P f vals w fun e w'=>∃ u E',e = .returned u∧Gam C s a w' E'∧Rel C.P w' E' s.row u x)→o.wp C.P a w K Q:=by
  intro f vals hrun x hx hvx hc
  subst hvx
  unfold Oper.wp
  rw [hrun,Oper.upon_enter]
  refine hc.mono ?_
  rintro e w' ⟨u,E',rfl,g',hr⟩
  exact hK u w' E' (g'.putO hd hr hx)
 cases h with
 | op vc x h hvc=>
  obtain ⟨u,hrun,hr⟩:=ay_ok g hρ h hvc
  unfold Oper.wp
  rw [hrun,Oper.upon_value]
  exact hK u w E (g.putO hd hr.unbox (unbox_ne x))
 | call f xs ts args rs l ho hc hf hl=>
  have hrun:=run_call (P:=C.P) (w:=w) hf.1 a.eval o (.func f) xs ts #[] ho #[] rfl
  refine enter f _ hrun (retSV rs) (retSV_ne rs) rfl ?_
  refine call_ok g hc hf hl (by simp) (fun i hi=>?_)
  simp only [List.length_map,Array.length_toList] at hi
  have:=hρ xs[i] (by simp [ho,Op.operands,Call.operands])
  simpa [hi] using this
 | callW f xs ts args rs l hdr ho hc hf hl=>
  have hrun:=run_call (P:=C.P) (w:=w) hf.1 a.eval o (.func f) xs ts #[] ho #[] rfl
  refine enter f _ hrun (retSV rs) (retSV_ne rs) rfl ?_
  refine callW_ok g hdr hc hf hl (by simp) (fun i hi=>?_)
  simp only [List.length_map,Array.length_toList] at hi
  have:=hρ xs[i] (by simp [ho,Op.operands,Call.operands])
  simpa [hi] using this
 | callRaw t f xs ts args rs l ho ht hc hf hl=>
  have hft:=hρ (.tmp t) (by simp [ho,Op.operands,Call.operands])
  rw [ht] at hft
  have hrun:=run_call (P:=C.P) (w:=w) hf.1 a.eval o (.tmp t) xs ts #[] ho #[] (RdV.raw_eq hft)
  refine enter f _ hrun (retSV rs) (retSV_ne rs) rfl ?_
  refine call_ok g hc hf hl (by simp) (fun i hi=>?_)
  simp only [List.length_map,Array.length_toList] at hi
  have:=hρ xs[i] (by simp [ho,Op.operands,Call.operands])
  simpa [hi] using this
 | callFn t xs ts F ds r ho ht hds hF=>
  have hft:=hρ (.tmp t) (by simp [ho,Op.operands,Call.operands])
  rw [ht] at hft
  obtain ⟨f,first,caps,hv,he,hc⟩:=hft
  have hrun:=run_call (P:=C.P) (w:=w) he a.eval o (.tmp t) xs ts caps ho first hv
  have hlen:=pdsOf_length hds
  simp only [List.length_map,Array.length_toList] at hlen
  refine enter f _ hrun (.pd r) (by simp) rfl ?_
  refine (hc w E.G (Keeps.refl _ _) g.good ds r (xs.map a.eval) hF (by simp [hlen]) (fun j hj=>?_)).mono ?_
  ·have hj2:j<xs.size:=by omega
   have h1:=hρ xs[j] (by simp [ho,Op.operands,Call.operands])
   have h2:=pdsOf_get hds j (by simpa using hj2)
   have h3:ρ xs[j] = .pd (ds.getD j (.tup [])):=by simpa [hj2] using h2
   rw [h3] at h1
   simpa [hj2,Rel] using h1
  ·rintro e w' ⟨u,rfl,hr,hb⟩
   refine ⟨u,_,rfl,g.behind hb,retSV_ok (rs:=[r]) (ret_ok (l:=false) (by simp) (fun _ b o h=>?_) hr)⟩
   rcases h.1 with h1 | h1
   ·exact .inl h1
   ·exact .inr ⟨h1,h.2⟩
 | callClo t f ds xs ts args rs l ho ht hc hf hl=>
  have hft:=hρ (.tmp t) (by simp [ho,Op.operands,Call.operands])
  rw [ht] at hft
  generalize hev:a.eval (.tmp t)=fv at hft
  cases hft with
  | clo _ _ bs vs hbl hpub hcell hrd=>
   have hrun:=run_call (P:=C.P) (w:=w) hf.1 a.eval o (.tmp t) xs ts _ ho #[] hev
   refine enter f _ hrun (retSV rs) (retSV_ne rs) rfl ?_
   refine call_ok g (hc.refs ds) hf hl (by simp [hbl]) (fun i hi=>?_)
   simp only [List.length_append,List.length_map,Array.length_toList] at hi
   by_cases c:i<xs.size
   ·have h1:=hρ xs[i] (by simp [ho,Op.operands,Call.operands])
    have e1:(#[]++xs.map a.eval++(bs.map fun (p:Nat × Nat)=>Value.pointer (some ⟨p.1,p.2,none⟩)).toArray).getD i undef=a.eval xs[i]:=by
     rw [Array.getD_eq_getD_getElem?,Array.getElem?_append_left (by simpa using c)]; simp [c]
    have e2:(xs.toList.map ρ++ds.map fun d=>SV.ref d 0).getD i .dead=ρ xs[i]:=by
     rw [List.getD_eq_getElem?_getD,List.getElem?_append_left (by simpa using c)]; simp [c]
    rw [e1,e2]; exact h1
   ·have c2:i - xs.size<ds.length:=by omega
    have c3:i - xs.size<bs.length:=by omega
    have e1:(#[]++xs.map a.eval++(bs.map fun (p:Nat × Nat)=>Value.pointer (some ⟨p.1,p.2,none⟩)).toArray).getD i undef = .pointer (some ⟨(bs.getD (i - xs.size) (0,0)).1,(bs.getD (i - xs.size) (0,0)).2,none⟩):=by
     rw [Array.getD_eq_getD_getElem?,Array.getElem?_append_right (by simp; omega)]; simp [c3]
    have e2:(xs.toList.map ρ++ds.map fun d=>SV.ref d 0).getD i .dead = .ref (ds.getD (i - xs.size) (.tup [])) 0:=by
     rw [List.getD_eq_getElem?_getD,List.getElem?_append_right (by simp; omega)]; simp [c2]
    rw [e1,e2]
    exact ⟨_,_,rfl,fun j hj=>⟨hpub _ j c2 hj,_,hcell _ j c2 hj,hrd _ j c2 hj⟩⟩
 | look t x k ok ks ds key kt e td d ho hx hk ht fd h=>
  have h1:=hρ x (by simp [ho,Op.operands])
  have h2:=hρ k (by simp [ho,Op.operands])
  rw [hx] at h1; rw [hk] at h2
  have h2:=RdV.raw_eq h2
  generalize hev:a.eval x=mv at h1
  cases h1 with
  | mp _ _ r es clock cs hg hb hs hl hkk hv hrd=>
   obtain ⟨u,hu1,hu2⟩:=lookup_ok (P:=C.P) (w:=w) (G:=E.G) (ds:=ds) ht hb hs hkk (fun i hi=>by
    obtain ⟨hv1,hv2⟩:=hv i hi
    have hrd:=hrd i
    rw [hv1]
    generalize ds.getD i (.tup [])=dd at hv2 hrd
    cases dd with
    | tup l=>exact ⟨cs i,rfl,hv2 rfl,fun j hj=>hrd j hi hj⟩
    | raw _=>exact hrd 0 hi (by simp [PD.width])
    | list _ _=>exact hrd 0 hi (by simp [PD.width])
    | clo _ _=>exact hrd 0 hi (by simp [PD.width])
    | mp _ _=>exact hrd 0 hi (by simp [PD.width])) h ok
   unfold Oper.wp execOp
   simp only [ho,hev,h2,Sem.run_bind,hu1,Result.andThen_ok,Sem.run_pure,Oper.upon_value]
   refine hK _ _ E (g.putO hd ?_ (by cases ok <;> simp))
   cases ok with
   | false=>exact hu2
   | true=>
    refine ⟨#[u,.bool fd],rfl,rfl,fun j hj=>?_⟩
    match j,hj with
    | 0,_=>exact hu2
    | 1,_=>exact .raw _ rfl
 | slice t e n sz parts ds ho he hz h0 hn hp hds hw hzero=>
  have hlen:=pdsOf_length hds
  have hpl:parts.toList.length=n:=by have:=congrArg List.length hp; simpa using this
  simp only [List.length_map] at hlen
  have hrel:∀ i,i<ds.length→RdV w E.G ((parts.toList.map fun p=>a.eval p.2).getD i undef) (ds.getD i (.tup [])):=by
   intro i hi
   have hi2:i<parts.toList.length:=by omega
   have h1:=hρ (parts.toList[i]).2 (by
    simp only [ho,Op.operands,List.mem_toArray,List.mem_map]; exact ⟨parts.toList[i],List.getElem_mem hi2,rfl⟩)
   have h2:=pdsOf_get hds i (by simpa using hi2)
   have h3:ρ (parts.toList[i]).2 = .pd (ds.getD i (.tup [])):=by
    rw [← h2]; simp only [List.getD_eq_getElem?_getD,List.getElem?_map,List.getElem?_eq_getElem hi2,Option.map_some,Option.getD_some]
   rw [h3] at h1
   have h4:(parts.toList.map fun p=>a.eval p.2).getD i undef=a.eval (parts.toList[i]).2:=by
    simp only [List.getD_eq_getElem?_getD,List.getElem?_map,List.getElem?_eq_getElem hi2,Option.map_some,Option.getD_some]
   rw [h4]; exact h1
  have hzip:(parts.map fun (p:Nat × Operand)=>(p.1,a.eval p.2)).toList=(List.range n).zip (parts.toList.map fun p=>a.eval p.2):=by
   rw [← hp,List.zip_map']
   simp
  have hsizes:∀ v∈(parts.toList.map fun p=>a.eval p.2),v.cells.size=sz:=by
   intro v hv
   obtain ⟨i,hi,rfl⟩:=List.getElem_of_mem hv
   have hi2:i<ds.length:=by simpa [hlen] using hi
   have h1:=(hrel i hi2).cells_size
   rw [hw i (by omega),List.getD_eq_getElem?_getD,List.getElem?_eq_getElem hi] at h1
   exact h1
  have hrun:=run_buildSlice (P:=C.P) (w:=w) he hz h0 hn hzero hzip (by simpa using hpl) hsizes
  unfold Oper.wp execOp
  simp only [ho,Sem.run_bind,hrun,Result.andThen_ok,Sem.run_pure,Oper.upon_value]
  let G':Pub:=fun b o=>E.G b o∨b=w.heap.size
  have g':=g.grow (w':=w.alloc (.cells (flat (parts.toList.map fun p=>a.eval p.2)).toArray e)) (below_alloc w _) G' (fun _ _ h=>.inl h) (fun b o h=>by
   rcases h with h | h
   ·exact .inl h
   ·exact .inr ⟨by omega,by simp; omega⟩)
  refine hK _ _ _ (g'.putO hd ?_ (by simp))
  have hk:Keeps w E.G (w.alloc (.cells (flat (parts.toList.map fun p=>a.eval p.2)).toArray e)) E.G:=Keeps.of_below g.gw (below_alloc w _) (fun _ _ h=>h)
  have hdl:ds.length=n:=by omega
  have:Rd (w.alloc (.cells (flat (parts.toList.map fun p=>a.eval p.2)).toArray e)) G' (.slice (some ⟨w.heap.size,0,none⟩) ds.length n) (.list sz ds):=by
   refine Rd.list_mk (by omega) ?_ (fun i hi=>hw i (by omega)) (fun i hi=>?_)
   ·have:n≤n * sz:=Nat.le_mul_of_pos_right _ (Nat.pos_of_ne_zero h0)
    simp only [maxLen]; omega
   ·exact rows_read hk (by simp [hlen]) hrel (fun i hi=>hw i (by omega)) rfl (heap_alloc_new w _) G' (fun _ _ h=>.inl h) (fun _=>.inr rfl) i hi
  rw [hdl] at this
  exact this
 | alloc t zs ho hz h1=>
  obtain ⟨z,hzr,hzc⟩:=run_zeroT (P:=C.P) (w:=w) hz
  have hcells:z.cells=zs.toArray:=by rw [← hzc]
  unfold Oper.wp execOp
  simp only [ho,Sem.run_bind,Instr.alloc,hzr,Result.andThen_ok,Sem.run_pure,newVar,newRow,run_newObj,Oper.upon_value,hcells]
  cases hdst:o.dst with
  | none=>
   have g':=g.grow (w':=w.alloc (.cells zs.toArray t)) (below_alloc w _) E.G (fun _ _ h=>h) (fun _ _ h=>.inl h)
   have:=hK (.pointer (some ⟨w.heap.size,0,none⟩)) (w.alloc (.cells zs.toArray t)) { E with G:=E.G } (by rw [hdst]; exact g')
   rw [hdst] at this; exact this
  | some d=>
   have g':=g.box (hd d hdst) zs (fun v hv=>(List.all_eq_true.1 h1) v hv) t
   have:=hK (.pointer (some ⟨w.heap.size,0,none⟩)) (w.alloc (.cells zs.toArray t)) _ (by rw [hdst]; exact g')
   rw [hdst] at this; exact this
end
end Go.Abs
end
section
namespace Go.Abs
section
variable {C:Cx} {s:St} {a:Act} {w w':World} {E:Env} {P:Program}
theorem Mine.kept {G:Pub} {b:Nat} {cur:Array Value} {e:TypeId} (m:Mine C G w b cur e) (h:w'.heap[b]? = w.heap[b]?):Mine C G w' b cur e:=⟨m.1,m.2.1,h.trans m.2.2⟩
def Free (C:Cx) (s:St) (E:Env) (b:Nat):Prop:=C.w0.heap.size≤b∧(∀ t cs,s.var t=some cs→E.vb t≠b)∧(∀ j r p,s.row j=some r→E.rb j=some p→p.1≠b)∧(∀ t cs,s.get t = .box cs→E.bx t≠b)
theorem Gam.rowF (g:Gam C s a w E) {i:Nat} {r':Row} (place:Option (Nat × Nat)) (hk:Keeps w E.G w' E.G) (hb:Kept C.dr C.mu C.w0 w') (hsz:w.heap.size≤w'.heap.size) (hfix:∀ p,C.rb0 i=some p→place=p)
  (hold:∀ b,b<w.heap.size→(∀ r p,s.row i=some r→E.rb i=some p→b≠p.1)→w'.heap[b]? = w.heap[b]?)
  (hnew:(place=none∧r'.ds=[])∨∃ b cap cur,place=some (b,cap)∧Mine C E.G w' b cur r'.e∧cur.size=cap * r'.sz∧r'.ds.length≤cap∧cap≤maxLen ∧
   (∀ k,k<r'.ds.length→(r'.ds.getD k (.tup [])).width=r'.sz)∧(∀ k j,k<r'.ds.length→j<r'.sz→Rd w' E.G (cur.getD (k * r'.sz+j) undef) ((r'.ds.getD k (.tup [])).cell j)))
  (hfresh:∀ b cap,place=some (b,cap)→Free C s E b∨∃ r p,s.row i=some r∧E.rb i=some p∧p.1=b):
  Gam C (s.newRow i r') a w' { E with rb:=fun j=>if j=i then place else E.rb j }:=by
 have hvar:∀ j c,(s.newRow i r').var j=some c→∃ c0,s.var j=some c0∧c=c0.map (SV.killRow i):=by
  intro j c h
  rw [St.var_newRow] at h
  cases h0:s.var j with
  | none=>simp [h0] at h
  | some c0=>simp [h0] at h; exact ⟨c0,rfl,h.symm⟩
 have hbox:∀ j c,(s.newRow i r').get j = .box c→s.get j = .box c:=by
  intro j c h; rw [St.get_newRow] at h; exact SV.killRow_box i _ _ h
 have hrel:∀ v x,Rel C.P w E s.row v x→Rel C.P w' { E with rb:=fun j=>if j=i then place else E.rb j } (s.newRow i r').row v (x.killRow i):=by
  intro v x h
  exact Rel.killRow (E:=E) (row:=s.row) (fun j hj=>by rw [St.row_newRow,if_neg hj]) (fun j hj=>by simp [hj]) (h.keep hk rfl rfl)
 have hrow:∀ j r,(s.newRow i r').row j=some r→(j=i∧r=r')∨(j≠i∧s.row j=some r):=by
  intro j r h
  rw [St.row_newRow] at h
  split at h
  ·cases h; exact .inl ⟨by assumption,rfl⟩
  ·exact .inr ⟨by assumption,h⟩
 have hlt:∀ j r p,j≠i→s.row j=some r→E.rb j=some p→w'.heap[p.1]? = w.heap[p.1]?:=by
  intro j r p hne hr hp
  exact hold p.1 (g.row_lt hr hp) (fun r0 p0 hr0 hp0 he=>hne (g.rr j i r r0 p hr hr0 hp p0 hp0 he))
 exact {
  kept:=hb
  maps:=fun r m h=>(g.maps r m h).keep hk (fun h=>h) (fun b x hx hn=>(hold b (Array.getElem?_eq_some_iff.1 hx).1 (fun r0 p hr hp he=>by
   rcases g.rows i r0 hr with ⟨h2,_⟩ | ⟨b',cap,cur,h2,mm,_⟩
   ·rw [h2] at hp; cases hp
   ·rw [h2] at hp; cases hp
    rw [he,mm.2.2] at hx; cases hx; exact hn _ _ _ rfl)).trans hx)
  vfix:=g.vfix
  rfix:=fun j p h=>by
   by_cases c:j=i
   ·subst c; simp only [if_true]; exact hfix p h
   ·simp only [if_neg c]; exact g.rfix j p h
  rnew:=fun j r p h hp h0=>by
   rcases hrow j r h with ⟨rfl,rfl⟩ | ⟨hne,hr⟩
   ·simp only [if_true] at hp
    rcases hfresh p.1 p.2 hp with h1 | ⟨r0,p0,hr0,hp0,he0⟩
    ·exact h1.1
    ·rw [← he0]; exact g.rnew j r0 p0 hr0 hp0 h0
   ·simp only [if_neg hne] at hp
    exact g.rnew j r p hr hp h0
  defers:=g.defers
  size:=g.size
  g0:=g.g0
  g1:=g.g1
  tab:=g.tab.keep hk
  gw:=fun b o h=>Nat.lt_of_lt_of_le (g.gw b o h) hsz
  slots:=fun t=>by rw [St.get_newRow]; exact hrel _ _ (g.slots t)
  ghosts:=fun t=>by rw [St.gget_newRow]; exact hrel _ _ (g.ghosts t)
  vars:=fun t c h=>by
   obtain ⟨c0,h0,rfl⟩:=hvar t c h
   obtain ⟨cur,e,m,hs,hr⟩:=g.vars t c0 h0
   refine ⟨cur,e,m.kept (hold _ m.lt (fun r p hr hp he=>g.vr t c0 i r p h0 hr hp he)),by simpa using hs,fun j hj=>?_⟩
   rw [getD_map_kill _ rfl]
   have:=hr j (by simpa using hj)
   exact ⟨this.1,hrel _ _ this.2⟩
  rows:=fun j r h=>by
   rcases hrow j r h with ⟨rfl,rfl⟩ | ⟨hne,hr⟩
   ·simp only [if_true]
    rcases hnew with h | ⟨b,cap,cur,h1,h2⟩
    ·exact .inl h
    ·exact .inr ⟨b,cap,cur,h1,h2⟩
   ·simp only [if_neg hne]
    rcases g.rows j r hr with h | ⟨b,cap,cur,h1,m,h2,h3,h4,h5,h6⟩
    ·exact .inl h
    ·exact .inr ⟨b,cap,cur,h1,m.kept (hlt j r (b,cap) hne hr h1),h2,h3,h4,h5,fun k j hk' hj=>(h6 k j hk' hj).keep hk⟩
  boxes:=fun t c h=>by
   have h':=hbox t c h
   obtain ⟨h1,⟨e,m⟩,h2⟩:=g.boxes t c h'
   exact ⟨h1,⟨e,m.kept (hold _ m.lt (fun r p hr hp he=>g.br t c i r p h' hr hp he))⟩,h2⟩
  vv:=fun t t' c c' h h' he=>by
   obtain ⟨_,h,_⟩:=hvar t c h; obtain ⟨_,h',_⟩:=hvar t' c' h'
   exact g.vv t t' _ _ h h' he
  rr:=fun j j' r r2 p h h' hp p' hp' he=>by
   rcases hrow j r h with ⟨rfl,rfl⟩ | ⟨hne,hr⟩ <;> rcases hrow j' r2 h' with ⟨rfl,rfl⟩ | ⟨hne',hr'⟩
   ·rfl
   ·simp only [if_true] at hp
    simp only [if_neg hne'] at hp'
    rcases hfresh p.1 p.2 hp with h | ⟨r0,p0,hr0,hp0,he0⟩
    ·exact (h.2.2.1 j' r2 p' hr' hp' he.symm).elim
    ·exact g.rr j j' r0 r2 p0 hr0 hr' hp0 p' hp' (he0.trans he)
   ·simp only [if_true] at hp'
    simp only [if_neg hne] at hp
    rcases hfresh p'.1 p'.2 hp' with h | ⟨r0,p0,hr0,hp0,he0⟩
    ·exact (h.2.2.1 j r p hr hp he).elim
    ·exact g.rr j j' r r0 p hr hr0 hp p0 hp0 (he.trans he0.symm)
   ·simp only [if_neg hne] at hp
    simp only [if_neg hne'] at hp'
    exact g.rr j j' r r2 p hr hr' hp p' hp' he
  vr:=fun t c j r p h hr hp=>by
   obtain ⟨c0,h0,_⟩:=hvar t c h
   rcases hrow j r hr with ⟨rfl,rfl⟩ | ⟨hne,hr⟩
   ·simp only [if_true] at hp
    rcases hfresh p.1 p.2 hp with h | ⟨r0,p0,hr0,hp0,he0⟩
    ·exact h.2.1 t c0 h0
    ·rw [← he0]; exact g.vr t c0 j r0 p0 h0 hr0 hp0
   ·simp only [if_neg hne] at hp
    exact g.vr t c0 j r p h0 hr hp
  bb:=fun t t' c c' h h'=>g.bb t t' c c' (hbox t c h) (hbox t' c' h')
  bv:=fun t t' c c' h h'=>by obtain ⟨c0,h0,_⟩:=hvar t' c' h'; exact g.bv t t' c c0 (hbox t c h) h0
  br:=fun t c j r p h hr hp=>by
   have h':=hbox t c h
   rcases hrow j r hr with ⟨rfl,rfl⟩ | ⟨hne,hr⟩
   ·simp only [if_true] at hp
    rcases hfresh p.1 p.2 hp with h2 | ⟨r0,p0,hr0,hp0,he0⟩
    ·exact h2.2.2.2 t c h'
    ·rw [← he0]; exact g.br t c j r0 p0 h' hr0 hp0
   ·simp only [if_neg hne] at hp
    exact g.br t c j r p h' hr hp }
theorem Gam.row (g:Gam C s a w E) {i:Nat} {r':Row} (place:Option (Nat × Nat)) (hk:Keeps w E.G w' E.G) (hb:Kept C.dr C.mu C.w0 w') (hsz:w.heap.size≤w'.heap.size) (hfix:∀ p,C.rb0 i=some p→place=p)
  (hold:∀ b,b<w.heap.size→(∀ r p,s.row i=some r→E.rb i=some p→b≠p.1)→w'.heap[b]? = w.heap[b]?)
  (hnew:(place=none∧r'.ds=[])∨∃ b cap cur,place=some (b,cap)∧Mine C E.G w' b cur r'.e∧cur.size=cap * r'.sz∧r'.ds.length≤cap∧cap≤maxLen ∧
   (∀ k,k<r'.ds.length→(r'.ds.getD k (.tup [])).width=r'.sz)∧(∀ k j,k<r'.ds.length→j<r'.sz→Rd w' E.G (cur.getD (k * r'.sz+j) undef) ((r'.ds.getD k (.tup [])).cell j)))
  (hfresh:∀ b cap,place=some (b,cap)→w.heap.size≤b∨∃ r p,s.row i=some r∧E.rb i=some p∧p.1=b):
  Gam C (s.newRow i r') a w' { E with rb:=fun j=>if j=i then place else E.rb j }:=by
 refine g.rowF place hk hb hsz hfix hold hnew (fun b cap h=>?_)
 rcases hfresh b cap h with h1 | h1
 ·refine .inl ⟨Nat.le_trans g.kept.size h1,fun t cs hv=>?_,fun j r p hr hp=>?_,fun t cs hb=>?_⟩
  ·have:=g.var_lt hv; omega
  ·have:=g.row_lt hr hp; omega
  ·have:=g.box_lt hb; omega
 ·exact .inr h1
inductive SV.le:SV→SV→Prop
 | dead (x:SV):SV.le x .dead
 | same (x:SV):SV.le x x
 | nil (sz:Nat):SV.le (.pd (.raw (.slice none 0 0))) (.pd (.list sz []))
 | gd (c:Bool) (x:SV):SV.le x (.gd c x)
structure St.le (s s':St):Prop where
 n:s'.n=s.n
 slots:∀ t,SV.le (s.get t) (s'.get t)
 vars:∀ t cs,s'.var t=some cs→∃ cs0,s.var t=some cs0∧cs0.length=cs.length∧∀ j,j<cs.length→SV.le (cs0.getD j .dead) (cs.getD j .dead)
 rows:∀ i r,s'.row i=some r→s.row i=some r
 maps:∀ r m,s'.map r=some m→s.map r=some m
 gs:∀ t,SV.le (s.gget t) (s'.gget t)
theorem Rel.le {row:Nat→Option Row} {v:Value} {x y:SV} (h:Rel P w E row v x) (l:SV.le x y):Rel P w E row v y:=by
 cases l with
 | dead=>trivial
 | same=>exact h
 | nil sz=>have:=RdV.raw_eq h; subst this; exact .nil sz
 | gd c x=>exact fun _=>h
theorem Rel.rowSub {row row':Nat→Option Row} (h:∀ i r,row' i=some r→row i=some r) {v:Value} {x:SV} (hr:Rel P w E row v x):Rel P w E row' v x:=by
 induction x generalizing v with
 | own id=>exact fun r' h'=>hr r' (h id r' h')
 | eptr id i off=>exact fun r' h'=>hr r' (h id r' h')
 | gd c x ih=>exact fun hc=>ih (hr hc)
 | ifc t x ih=>obtain ⟨u,e,hr⟩:=hr; exact ⟨u,e,ih hr⟩
 | _=>exact hr
theorem SV.le.box {x:SV} {cs:List Value} (h:SV.le x (.box cs)):x = .box cs:=by cases h; rfl
theorem Gam.weak {s':St} (g:Gam C s a w E) (l:St.le s s'):Gam C s' a w E:=by
 have hrs:∀ {v:Value} {x:SV},Rel C.P w E s.row v x→Rel C.P w E s'.row v x:=fun h=>h.rowSub l.rows
 have hb:∀ t cs,s'.get t = .box cs→s.get t = .box cs:=fun t cs h=>by
  have:=l.slots t; rw [h] at this; exact this.box
 exact {
  kept:=g.kept
  vfix:=g.vfix
  rfix:=g.rfix
  maps:=fun r m h=>g.maps r m (l.maps r m h)
  rnew:=fun i r p h=>g.rnew i r p (l.rows i r h)
  defers:=g.defers
  size:=g.size.trans l.n.symm
  g0:=g.g0
  g1:=g.g1
  tab:=g.tab
  gw:=g.gw
  slots:=fun t=>hrs ((g.slots t).le (l.slots t))
  ghosts:=fun t=>hrs ((g.ghosts t).le (l.gs t))
  vars:=fun t cs h=>by
   obtain ⟨cs0,h0,hl,hle⟩:=l.vars t cs h
   obtain ⟨cur,e,m,hs,hr⟩:=g.vars t cs0 h0
   exact ⟨cur,e,m,by omega,fun j hj=>⟨(hr j (by omega)).1,hrs ((hr j (by omega)).2.le (hle j hj))⟩⟩
  rows:=fun i r h=>g.rows i r (l.rows i r h)
  boxes:=fun t cs h=>g.boxes t cs (hb t cs h)
  vv:=fun t t' c c' h h'=>by
   obtain ⟨_,h,_⟩:=l.vars t c h; obtain ⟨_,h',_⟩:=l.vars t' c' h'
   exact g.vv t t' _ _ h h'
  rr:=fun i i' r r' p h h'=>g.rr i i' r r' p (l.rows i r h) (l.rows i' r' h')
  vr:=fun t c i r p h h'=>by obtain ⟨_,h,_⟩:=l.vars t c h; exact g.vr t _ i r p h (l.rows i r h')
  bb:=fun t t' c c' h h'=>g.bb t t' c c' (hb t c h) (hb t' c' h')
  bv:=fun t t' c c' h h'=>by obtain ⟨_,h',_⟩:=l.vars t' c' h'; exact g.bv t t' c _ (hb t c h) h'
  br:=fun t c i r p h h'=>g.br t c i r p (hb t c h) (l.rows i r h') }
theorem R.weak {k:List KI} {s':St} (l:St.le s s') (h:R C k s'):R C k s:=fun a w E g=>h a w E (g.weak l)
def SV.frz (i:Nat) (r:Row):SV→SV
 | .own i'=>if i'=i then .pd (.list r.sz r.ds) else .own i'
 | .eptr i' k off=>if i'=i then .dead else .eptr i' k off
 | .gd c v=>.gd c (v.frz i r)
 | .ifc t v=>.ifc t (v.frz i r)
 | v=>v
def er {α:Type} (k:Nat):List (Nat × α)→List (Nat × α)
 | []=>[]
 | (j,x)::l=>if j=k then er k l else (j,x)::er k l
theorem lk_er {α:Type} (k j:Nat) (l:List (Nat × α)):lk j (er k l)=if j=k then none else lk j l:=by
 induction l with
 | nil=>simp [er,lk]
 | cons p l ih=>
  obtain ⟨i,x⟩:=p
  simp only [er]
  by_cases h:i=k
  ·subst h
   simp only [if_true,ih,lk]
   by_cases h2:j=i
   ·simp [h2]
   ·simp [h2,Ne.symm h2]
  ·simp only [h,if_false,lk,ih]
   by_cases h2:i=j
   ·subst h2; simp [h]
   ·simp [h2]
def St.frz (s:St) (i:Nat) (r:Row):St:=
 { s with slots:=s.slots.map fun p=>(p.1,p.2.frz i r),vars:=s.vars.map fun p=>(p.1,p.2.map (SV.frz i r)),rows:=er i s.rows,gs:=s.gs.map fun p=>(p.1,p.2.frz i r) }
theorem SV.frz_box (i:Nat) (r:Row) (v:SV) (cs:List Value) (h:v.frz i r = .box cs):v = .box cs:=by
 cases v <;> simp only [SV.frz] at h <;> first | exact h | (split at h <;> cases h) | cases h
theorem St.get_frz (s:St) (i:Nat) (r:Row) (j:Nat):(s.frz i r).get j=(s.get j).frz i r:=by
 simp only [St.get,St.frz,lk_map]; cases lk j s.slots <;> rfl
theorem St.gget_frz (s:St) (i:Nat) (r:Row) (j:Nat):(s.frz i r).gget j=(s.gget j).frz i r:=by
 simp only [St.gget,St.frz,lk_map]; cases lk j s.gs <;> rfl
theorem St.var_frz (s:St) (i:Nat) (r:Row) (j:Nat):(s.frz i r).var j=(s.var j).map (List.map (SV.frz i r)):=by
 simp only [St.var,St.frz,lk_map]
theorem St.row_frz (s:St) (i:Nat) (r:Row) (j:Nat):(s.frz i r).row j=if j=i then none else s.row j:=by
 simp only [St.row,St.frz,lk_er]
theorem Gam.frz (g:Gam C s a w E) {i:Nat} {r:Row} (hr0:C.rb0 i=none) (hr:s.row i=some r):∃ E',Gam C (s.frz i r) a w E':=by
 let G':Pub:=fun b o=>E.G b o∨∃ p,E.rb i=some p∧b=p.1
 have hG:∀ b o,E.G b o→G' b o:=fun _ _ h=>.inl h
 have hk:Keeps w E.G w G':=.same hG
 refine ⟨{ E with G:=G' },?_⟩
 have hvar:∀ j c,(s.frz i r).var j=some c→∃ c0,s.var j=some c0∧c=c0.map (SV.frz i r):=by
  intro j c h
  rw [St.var_frz] at h
  cases h0:s.var j with
  | none=>simp [h0] at h
  | some c0=>simp [h0] at h; exact ⟨c0,rfl,h.symm⟩
 have hbox:∀ j c,(s.frz i r).get j = .box c→s.get j = .box c:=by
  intro j c h; rw [St.get_frz] at h; exact SV.frz_box i r _ _ h
 have hrow:∀ j r',(s.frz i r).row j=some r'→j≠i∧s.row j=some r':=by
  intro j r' h
  rw [St.row_frz] at h
  split at h
  ·cases h
  ·exact ⟨by assumption,h⟩
 have mn:∀ b cur e,(∀ p,E.rb i=some p→b≠p.1)→Mine C E.G w b cur e→Mine C G' w b cur e:=fun b cur e hne m=>
  ⟨m.1,fun o h=>by rcases h with h | ⟨p,hp,rfl⟩; exact m.2.1 o h; exact hne p hp rfl,m.2.2⟩
 have hlist:∀ v,Rel C.P w E s.row v (.own i)→Rd w G' v (.list r.sz r.ds):=by
  intro v hv
  rcases hv r hr with ⟨h1,rfl⟩ | ⟨b,cap,h1,rfl⟩
  ·rw [g.rb_nil i r hr h1]; exact .nil _
  ·rcases g.rows i r hr with ⟨h2,_⟩ | ⟨b',cap',cur,h2,_,h3,h4,h5,h6,_⟩
   ·rw [h2] at h1; cases h1
   ·rw [h2] at h1; cases h1
    refine Rd.list_mk h4 h5 h6 (fun k hk' j hj=>?_)
    rw [h6 k hk'] at hj
    obtain ⟨u,hu1,hu2⟩:=g.row_cell hr h2 hk' hj
    exact ⟨.inr ⟨_,h2,rfl⟩,u,by simpa using hu1,hu2.keep hk⟩
 have hrel:∀ v x,Rel C.P w E s.row v x→Rel C.P w { E with G:=G' } (s.frz i r).row v (x.frz i r):=by
  intro v x h
  induction x generalizing v with
  | own i'=>
   simp only [SV.frz]
   split
   ·rename_i he; subst he; exact (hlist v h).toV
   ·rename_i hne; exact fun r' hr'=>h r' (hrow _ _ hr').2
  | eptr i' k off=>
   simp only [SV.frz]
   split
   ·trivial
   ·exact fun r' hr'=>h r' (hrow _ _ hr').2
  | gd c x ih=>exact fun hc=>ih _ (h hc)
  | ifc t x ih=>obtain ⟨u,e,h⟩:=h; exact ⟨u,e,ih _ h⟩
  | dead=>trivial
  | pd d=>exact RdV.keep hk h
  | ref d off=>obtain ⟨b,base,e,h⟩:=h; exact ⟨b,base,e,h.keep hk⟩
  | vptr t off=>exact h
  | tpl ds=>obtain ⟨vs,e,hs,h⟩:=h; exact ⟨vs,e,hs,fun j hj=>(h j hj).keep hk⟩
  | clo f caps=>exact h
  | fn F=>exact FnOk.keep hk h
  | box _=>trivial
 exact {
  kept:=g.kept
  vfix:=g.vfix
  rfix:=g.rfix
  maps:=fun b m h=>(g.maps b m h).keep hk (fun hn o ho=>by
   rcases ho with ho | ⟨p,hp,rfl⟩
   ·exact hn o ho
   ·rcases g.rows i r hr with ⟨h2,_⟩ | ⟨b',cap,cur,h2,mm,_⟩
    ·rw [h2] at hp; cases hp
    ·rw [h2] at hp; cases hp
     have hm:=g.maps b' m h
     cases m with
     | map m=>obtain ⟨_,es,clock,h1,_⟩:=hm; rw [mm.2.2] at h1; cases h1
     | it r' l c=>obtain ⟨_,_,_,_,_,_,h1,_⟩:=hm; rw [mm.2.2] at h1; cases h1
     | gone=>obtain ⟨_,x,h1,h2⟩:=hm; rw [mm.2.2] at h1; cases h1; exact h2 _ _ _ rfl) (fun _ _ hx _=>hx)
  rnew:=fun j r' p h=>g.rnew j r' p (hrow j r' h).2
  defers:=g.defers
  size:=g.size
  g0:=fun b o h=>.inl (g.g0 b o h)
  g1:=fun b o h=>by
   rcases h with h | ⟨p,hp,rfl⟩
   ·exact g.g1 b o h
   ·rcases g.rows i r hr with ⟨h2,_⟩ | ⟨b',cap',cur,h2,m,_⟩
    ·rw [h2] at hp; cases hp
    ·exact .inr (g.rnew i r p hr hp hr0)
  tab:=g.tab.keep hk
  gw:=fun b o h=>by
   rcases h with h | ⟨p,hp,rfl⟩
   ·exact g.gw b o h
   ·exact g.row_lt hr hp
  slots:=fun t=>by rw [St.get_frz]; exact hrel _ _ (g.slots t)
  ghosts:=fun t=>by rw [St.gget_frz]; exact hrel _ _ (g.ghosts t)
  vars:=fun t c h=>by
   obtain ⟨c0,h0,rfl⟩:=hvar t c h
   obtain ⟨cur,e,m,hs,hr'⟩:=g.vars t c0 h0
   refine ⟨cur,e,mn _ _ _ (fun p hp he=>g.vr t c0 i r p h0 hr hp he) m,by simpa using hs,fun j hj=>?_⟩
   rw [getD_map_kill _ rfl]
   have:=hr' j (by simpa using hj)
   exact ⟨this.1,hrel _ _ this.2⟩
  rows:=fun j r' h=>by
   obtain ⟨hne,hj⟩:=hrow j r' h
   rcases g.rows j r' hj with h | ⟨b,cap,cur,h1,m,h2,h3,h4,h5,h6⟩
   ·exact .inl h
   ·exact .inr ⟨b,cap,cur,h1,mn _ _ _ (fun p hp he=>hne (g.rr j i r' r (b,cap) hj hr h1 p hp he)) m,h2,h3,h4,h5,fun k j hk' hj=>(h6 k j hk' hj).keep hk⟩
  boxes:=fun t c h=>by
   have h':=hbox t c h
   obtain ⟨h1,⟨e,m⟩,h2⟩:=g.boxes t c h'
   exact ⟨h1,⟨e,mn _ _ _ (fun p hp he=>g.br t c i r p h' hr hp he) m⟩,h2⟩
  vv:=fun t t' c c' h h' he=>by
   obtain ⟨_,h,_⟩:=hvar t c h; obtain ⟨_,h',_⟩:=hvar t' c' h'
   exact g.vv t t' _ _ h h' he
  rr:=fun j j' r1 r2 p h h'=>g.rr j j' r1 r2 p (hrow j r1 h).2 (hrow j' r2 h').2
  vr:=fun t c j r1 p h h'=>by obtain ⟨c0,h0,_⟩:=hvar t c h; exact g.vr t c0 j r1 p h0 (hrow j r1 h').2
  bb:=fun t t' c c' h h'=>g.bb t t' c c' (hbox t c h) (hbox t' c' h')
  bv:=fun t t' c c' h h'=>by obtain ⟨c0,h0,_⟩:=hvar t' c' h'; exact g.bv t t' c c0 (hbox t c h) h0
  br:=fun t c j r1 p h h'=>g.br t c j r1 p (hbox t c h) (hrow j r1 h').2 }
theorem R.frz {k:List KI} (i:Nat) {r:Row} (hr0:C.rb0 i=none) (hr:s.row i=some r) (h:R C k (s.frz i r)):R C k s:=fun a w E g=>by
 obtain ⟨E',g'⟩:=g.frz hr0 hr; exact h a w E' g'
theorem R.mkOwn {k:List KI} (t i:Nat) (e:TypeId) (sz:Nat) (ht:t<s.n) (hr0:C.rb0 i=none) (h0:s.get t = .pd (.raw (.slice none 0 0))) (h:R C k ((s.newRow i ⟨e,sz,[]⟩).set t (.own i))):R C k s:=by
 intro a w E g
 have g1:=g.row (i:=i) (r':=⟨e,sz,[]⟩) (w':=w) none (Keeps.refl _ _) g.kept (Nat.le_refl _) (fun p hp=>by rw [hr0] at hp; cases hp) (fun _ _ _=>rfl) (.inl ⟨rfl,rfl⟩) (fun b cap h=>by cases h)
 have hv:a.tmps.getD t undef = .slice none 0 0:=by have:=g.slots t; rw [h0] at this; exact RdV.raw_eq this
 have g2:=g1.put (t:=t) (u:=.slice none 0 0) (v:=.own i) ht (fun r _=>.inl ⟨by simp,rfl⟩) (by simp)
 have:a.put (some t) (.slice none 0 0)=a:=by
  cases a with
  | mk tm df=>
   simp only [Act.put,Act.mk.injEq,and_true]
   rw [← hv]
   apply Array.ext
   ·simp
   ·intro j h1 h2
    by_cases hj:t=j
    ·subst hj; simp [Array.getD,h2]
    ·rw [Array.getElem_setIfInBounds_ne h2 hj]
 rw [this] at g2
 exact h a w _ g2
end
end Go.Abs
end
section
namespace Go.Abs
section
variable {C:Cx} {s:St} {a:Act} {w w':World} {E:Env} {P:Program} {all:Array Oper} {l:List Oper} {k:List KI} {o:Oper}
theorem R.y {v:SV} (hg:o.guard=none) (hd:dstOk s o) (h:Y C.dr C.P s.var s.row (evO s) o v) (next:R C (.ops all l::k) (s.put o.dst v)):R C (.ops all (o::l)::k) s:=
 fun _ _ _ g=>wpList_plain hg fun _ hK=>Y.ok g (fun x _=>evO_ok g x) hd h fun _ _ _ g'=>hK _ _ (next _ _ _ g')
theorem St.le_put (s:St) (dst:Option Nat) (v v':SV) (h:SV.le v v'):St.le (s.put dst v) (s.put dst v'):=by
 cases dst with
 | none=>exact ⟨rfl,fun _=>.same _,fun t cs h=>⟨cs,h,rfl,fun _ _=>.same _⟩,fun _ _ h=>h,fun _ _ h=>h,fun _=>.same _⟩
 | some t=>
  refine ⟨rfl,fun j=>?_,fun t cs h=>⟨cs,h,rfl,fun _ _=>.same _⟩,fun _ _ h=>h,fun _ _ h=>h,fun _=>.same _⟩
  simp only [St.put,St.get_set]
  split
  ·exact h
  ·exact .same _
theorem wanted_eq (g:Gam C s a w E) {j t:Nat} {want c:Bool} (hg:o.guard=some (j,want)) (hj:(all[j]?).bind (·.dst)=some t) (hc:s.get t = .pd (.raw (.bool c))):Region.wanted o (yielded all a.tmps)=(c == want):=by
 have hb:=g.bool hc
 have hlt:t<a.tmps.size:=by
  rcases Nat.lt_or_ge t a.tmps.size with h | h
  ·exact h
  ·simp [Array.getD,Nat.not_lt.2 h,undef] at hb
 have ht:a.tmps[t]? = some (.bool c):=by
  simp [Array.getD,hlt] at hb
  simp [hlt,hb]
 simp only [Region.wanted,hg,yielded,hj,Option.bind_some,ht]
 cases c <;> cases want <;> rfl
theorem R.yg {v:SV} {j t:Nat} {want c:Bool} (hg:o.guard=some (j,want)) (hj:(all[j]?).bind (·.dst)=some t) (hc:s.get t = .pd (.raw (.bool c))) (hd:dstOk s o)
  (h:(c == want)=true→gok (c == want) (o.op.operands.toList.map (evO s))∧Y C.dr C.P s.var s.row (evG s) o v) (next:R C (.ops all l::k) (s.put o.dst (.gd (c == want) v))):R C (.ops all (o::l)::k) s:=by
 intro a w E g
 refine wpList_step fun K hK=>?_
 rw [wanted_eq g hg hj hc]
 split
 ·rename_i hw
  obtain ⟨h1,h2⟩:=h hw
  exact Y.ok g (evG_ok g hw h1) hd h2 fun _ _ _ g'=>hK _ _ (next _ _ _ (g'.weak (St.le_put s o.dst v _ (.gd _ _))))
 ·rename_i hw
  exact hK _ _ (next _ _ _ (g.putO hd (fun h=>(hw h).elim) (by simp)))
theorem R.name (t:Nat) {zs:List Value} (hv0:C.vb0 t=none) (h:s.get t = .box zs) (next:R C k (s.newVar t (zs.map fun v=>.pd (.raw v)))):R C k s:=
 fun a w _ g=>next a w _ (g.boxVar hv0 h)
def stV (row:Nat→Option Row):SV→Option (List SV)
 | .pd d=>some (d.cells.map .pd)
 | .ref d o=>some [.ref d o]
 | .vptr t o=>some [.vptr t o]
 | .own i=>if (row i).isSome then some [.own i] else none
 | .clo f c=>some [.clo f c]
 | .fn F=>some [.fn F]
 | .ifc t x=>some [.ifc t x]
 | _=>none
theorem stV_ok {row:Nat→Option Row} {u:Value} {v:SV} {l:List SV} (h:stV row v=some l) (hr:Rel P w E row u v):
  u.cells.size=l.length∧∀ j,j<l.length→(u.cells.getD j undef).oneCell'=true∧Rel P w E row (u.cells.getD j undef) (l.getD j .dead):=by
 have one:∀ x,u.oneCell'=true→Rel P w E row u x→u.cells.size=[x].length∧∀ j,j<[x].length→(u.cells.getD j undef).oneCell'=true∧Rel P w E row (u.cells.getD j undef) ([x].getD j .dead):=by
  intro x h1 h2
  have hv:u.cells = #[u]:=by cases u <;> simp_all [Value.cells,Value.oneCell']
  rw [hv]
  refine ⟨rfl,fun j hj=>?_⟩
  have:j<1:=hj
  obtain rfl:j=0:=by omega
  exact ⟨h1,h2⟩
 cases v with
 | pd d=>
  simp only [stV,Option.some.injEq] at h; subst h
  have hc:=RdV.cells hr
  refine ⟨by simpa using hc.1,fun j hj=>?_⟩
  simp only [List.length_map] at hj
  have h1:=hc.2 j hj
  have e:(d.cells.map SV.pd).getD j .dead = .pd (d.cells.getD j (.tup [])):=by simp [hj]
  have e2:u.cells.getD j undef=u.cells.toList.getD j undef:=by simp [Array.getD_eq_getD_getElem?,List.getD_eq_getElem?_getD]
  rw [e,e2]
  exact ⟨h1.oneCell,h1.toV⟩
 | ref d o=>
  simp only [stV,Option.some.injEq] at h; subst h
  refine one _ ?_ hr
  obtain ⟨b,base,rfl,_⟩:=hr; rfl
 | vptr t o=>
  simp only [stV,Option.some.injEq] at h; subst h
  refine one _ ?_ hr
  simp only [Rel] at hr; subst hr; rfl
 | own i=>
  simp only [stV] at h
  split at h <;> cases h
  rename_i hs
  refine one _ ?_ hr
  obtain ⟨r,hi⟩:=Option.isSome_iff_exists.1 hs
  rcases hr r hi with ⟨_,rfl⟩ | ⟨b,cap,_,rfl⟩ <;> rfl
 | clo f c=>
  simp only [stV,Option.some.injEq] at h; subst h
  refine one _ ?_ hr
  simp only [Rel] at hr; subst hr; rfl
 | fn F=>
  simp only [stV,Option.some.injEq] at h; subst h
  refine one _ ?_ hr
  obtain ⟨f,x,c,rfl,_⟩:=hr; rfl
 | ifc t x=>
  simp only [stV,Option.some.injEq] at h; subst h
  refine one _ ?_ hr
  obtain ⟨u,rfl,_⟩:=hr; rfl
 | _=>simp [stV] at h
theorem getD_splice {α:Type} (d:α) (xs ys:List α) (off j:Nat) (h:off+ys.length≤xs.length) (hj:j<xs.length):
  (xs.take off++ys++xs.drop (off+ys.length)).getD j d=if off≤j∧j<off+ys.length then ys.getD (j - off) d else xs.getD j d:=by
 have ht:(xs.take off).length=off:=by simp; omega
 simp only [List.getD_eq_getElem?_getD,List.append_assoc]
 by_cases c1:j<off
 ·rw [if_neg (by omega),List.getElem?_append_left (by omega),List.getElem?_take,if_pos c1]
 ·have e1:(xs.take off++(ys++xs.drop (off+ys.length)))[j]? = (ys++xs.drop (off+ys.length))[j - off]?:=by rw [List.getElem?_append_right (by omega),ht]
  rw [e1]
  by_cases c2:j<off+ys.length
  ·rw [if_pos (by omega),List.getElem?_append_left (by omega)]
  ·rw [if_neg (by omega),List.getElem?_append_right (by omega),List.getElem?_drop]
   congr 2; omega
theorem R.store {x y:Operand} {ty:TypeId} {v0 off:Nat} {cs ls:List SV} (ho:o.op = .store ty x y) (hg:o.guard=none) (hd:dstOk s o) (hx:evO s x = .vptr v0 off) (hv:s.var v0=some cs)
  (hy:stV s.row (evO s y)=some ls) (hz:szT C.P ty≠0) (hl:szT C.P ty=ls.length) (hle:off+ls.length≤cs.length)
  (next:R C (.ops all l::k) ((s.setVar v0 (cs.take off++ls++cs.drop (off+ls.length))).put o.dst .dead)):R C (.ops all (o::l)::k) s:=by
 intro a w E g
 refine wpList_plain hg fun K hK=>?_
 have h1:=evO_ok g x; rw [hx] at h1
 have h2:=evO_ok g y
 obtain ⟨hsz,hcells⟩:=stV_ok hy h2
 obtain ⟨cur,e,m,hs,hr⟩:=g.vars v0 cs hv
 simp only [Rel] at h1
 have hone:∀ v∈(a.eval y).cells.toList,v.oneCell'=true:=by
  intro v hv
  obtain ⟨j,hj,rfl⟩:=List.getElem_of_mem hv
  have hj2:j<(a.eval y).cells.size:=by simpa using hj
  have:=(hcells j (by omega)).1
  simpa [Array.getD,hj2] using this
 have hll:(a.eval y).cells.toList.length=ls.length:=by simpa using hsz
 have hst:=run_storeCells_at C.P (E.vb v0) off e (a.eval y).cells.toList 0 cur w m.2.2 (by simp [hs]; omega) hone
 have hrun:(Instr.storeAt ty (a.eval x) (a.eval y)).run C.P w = .ok () (w.setRow (E.vb v0) (cur.toList.take off++(a.eval y).cells.toList++cur.toList.drop (off+(a.eval y).cells.toList.length)).toArray):=by
  simp only [Instr.storeAt,h1,Instr.sureAddr,Sem.run_bind,Sem.run_pure,Result.andThen_ok,storeVar,run_szT hz]
  rw [if_neg (by omega)]
  simpa using hst
 unfold Oper.wp execOp
 simp only [ho,Sem.run_bind,hrun,Result.andThen_ok,Sem.run_pure,Oper.upon_skip]
 have hlen:(cs.take off++ls++cs.drop (off+ls.length)).length=cs.length:=by simp; omega
 have g':=g.store (cs':=cs.take off++ls++cs.drop (off+ls.length)) hv (cur.toList.take off++(a.eval y).cells.toList++cur.toList.drop (off+(a.eval y).cells.toList.length)).toArray
  (by rw [hlen]; simp only [List.size_toArray,List.length_append,List.length_take,List.length_drop,hll,Array.length_toList]; omega) (fun j hj=>by
   rw [hlen] at hj
   have e1:(cur.toList.take off++(a.eval y).cells.toList++cur.toList.drop (off+(a.eval y).cells.toList.length)).toArray.getD j undef=(cur.toList.take off++(a.eval y).cells.toList++cur.toList.drop (off+(a.eval y).cells.toList.length)).getD j undef:=by
    rw [Array.getD_eq_getD_getElem?,List.getD_eq_getElem?_getD,List.getElem?_toArray]
   rw [e1,getD_splice _ _ _ _ _ (by simp [hll,hs]; omega) (by simp [hs]; exact hj),getD_splice _ _ _ _ _ hle hj,hll]
   by_cases c:off≤j∧j<off+ls.length
   ·rw [if_pos c,if_pos c]
    have:=hcells (j - off) (by omega)
    simpa [Array.getD_eq_getD_getElem?,List.getD_eq_getElem?_getD] using this
   ·rw [if_neg c,if_neg c]
    have:=hr j hj
    simpa [Array.getD_eq_getD_getElem?,List.getD_eq_getElem?_getD] using this)
 exact hK _ _ (next _ _ _ (g'.putO (o:=o) hd trivial (by simp)))
theorem R.box {x:Operand} {ty:TypeId} {t:Nat} {ls:List SV} (ho:o.op = .box ty x) (hg:o.guard=none) (hdst:o.dst=some t) (ht:t<s.n) (hv0:C.vb0 t=none) (hy:stV s.row (evO s x)=some ls)
  (next:R C (.ops all l::k) (s.newVar t (ls.map (SV.kill t)))):R C (.ops all (o::l)::k) s:=by
 intro a w E g
 refine wpList_plain hg fun K hK=>?_
 have h2:=evO_ok g x
 obtain ⟨hsz,hcells⟩:=stV_ok hy h2
 unfold Oper.wp execOp
 simp only [ho,Sem.run_bind,Instr.box,newVar,newRow,run_newObj,Result.andThen_ok,Sem.run_pure,Oper.upon_value,hdst]
 have g1:=g.grow (w':=w.alloc (.cells (a.eval x).cells ty)) (below_alloc w _) E.G (fun _ _ h=>h) (fun _ _ h=>.inl h)
 have g2:=g1.dead ht (.pointer (some ⟨w.heap.size,0,none⟩))
 have hta:t<a.tmps.size:=by rw [g.size]; exact ht
 have hk:Keeps w E.G (w.alloc (.cells (a.eval x).cells ty)) E.G:=Keeps.of_below g.gw (below_alloc w _) (fun _ _ h=>h)
 have m:Mine C E.G (w.alloc (.cells (a.eval x).cells ty)) w.heap.size (a.eval x).cells ty:=⟨.inl g.kept.size,fun o ho=>by have:=g.gw _ _ ho; omega,heap_alloc_new w _⟩
 have g3:=g2.named (b:=w.heap.size) (cs:=ls.map (SV.kill t)) (by rw [getD_put a t _ t hta,if_pos rfl]) m (by simpa using hsz) (fun j hj=>by
   simp only [List.length_map] at hj
   rw [getD_map_kill _ rfl]
   have:=hcells j hj
   exact ⟨this.1,((this.2.keep (E':={ E with G:=E.G }) hk rfl rfl).kill)⟩)
  (fun t' cs' hv _ he=>by have:=g.var_lt (t:=t') (cs:=cs') hv; rw [he] at this; omega)
  (fun i r p hi hp he=>by have:=g.row_lt (i:=i) (r:=r) hi (p:=p) hp; rw [← he] at this; omega)
  (fun j cs' hj hne he=>by
   rw [St.get_set,if_neg hne] at hj
   have:=g.box_lt hj; simp only at he; omega) hv0
 refine hK _ _ (next _ _ _ (g3.weak ⟨rfl,fun j=>?_,fun j cs h=>⟨cs,h,rfl,fun _ _=>.same _⟩,fun _ _ h=>h,fun _ _ h=>h,fun _=>.same _⟩))
 rw [St.get_newVar,St.get_newVar,St.get_set]
 split
 ·exact .same _
 ·exact .same _
end
end Go.Abs
end
