/- A part of the proof: Ay. -/
import Derived.Test.YtjbhhddfaohdnaaGreatDoorPOps
set_option linter.all false
set_option linter.deprecated false
namespace Go.Abs
section
variable {C:Cx} {s:St} {a:Act} {w:World} {E:Env} {P:Program}
theorem load_cells {G:Pub} {b o n:Nat} {ds:List PD} (hl:ds.length=n) (h:∀ j,j<n→∃ v,w.cell? ⟨b,o+j,none⟩=some v∧Rd w G v (ds.getD j (.tup []))):
  ∃ cs:Array Value,(loadCells ⟨b,o,none⟩ n).run P w = .ok cs w∧RdV w G (.agg cs) (.tup ds):=by
 let l:List Value:=(List.range n).map fun j=>(w.cell? ⟨b,o+j,none⟩).getD undef
 have hll:l.length=n:=by simp [l]
 have hg:∀ j,j<n→∃ v,l[j]? = some v∧w.cell? ⟨b,o+j,none⟩=some v∧Rd w G v (ds.getD j (.tup [])):=by
  intro j hj
  obtain ⟨v,hc,hr⟩:=h j hj
  exact ⟨v,by simp [l,hj,hc],hc,hr⟩
 have hrun:=run_loadCells_list (P:=P) w ⟨b,o,none⟩ l (fun j v hv=>by
  have hj:j<n:=by rw [← hll]; exact (List.getElem?_eq_some_iff.1 hv).1
  obtain ⟨v',h1,h2,_⟩:=hg j hj
  rw [h1] at hv; cases hv
  rw [addr_add]; exact h2)
 rw [hll] at hrun
 refine ⟨l.toArray,hrun,l.toArray,rfl,by simp [hll,hl],fun j hj=>?_⟩
 obtain ⟨v,h1,_,h3⟩:=hg j (by omega)
 have:l.toArray.getD j undef=v:=by
  have hj2:j<l.length:=by omega
  rw [List.getElem?_eq_getElem hj2] at h1
  simp only [Option.some.injEq] at h1
  simp [hj2,h1]
 rw [this]; exact h3
theorem run_loadVar_agg {t:TypeId} {ad:Addr} {n:Nat} {cs:Array Value} (hk:knownT P t=true) (ha:aggT P t=true) (hz:szT P t≠0) (hn:szT P t=n) (h:(loadCells ad n).run P w = .ok cs w):
  (loadVar t ad).run P w = .ok (.agg cs) w:=by
 subst hn
 simp [loadVar,run_aggT hk,ha,run_szT hz,h]
theorem run_loadVar_one {t:TypeId} {ad:Addr} {v:Value} (hk:knownT P t=true) (ha:aggT P t=false) (h:w.cell? ad=some v):(loadVar t ad).run P w = .ok v w:=by
 simp [loadVar,run_aggT hk,ha,h]
theorem getD_drop_take {α:Type} (l:List α) (off n j:Nat) (d:α) (h:j<n):((l.drop off).take n).getD j d=l.getD (off+j) d:=by
 simp [List.getD_eq_getElem?_getD,h]
theorem gath_length:∀ {l:List SV} {ds:List PD},gath l=some ds→ds.length=l.length
 | [],ds,h=>by simp only [gath,Option.some.injEq] at h; subst h; rfl
 | x::l,ds,h=>by
  cases x <;> simp only [gath,reduceCtorEq] at h
  cases h':gath l with
  | none=>simp [h'] at h
  | some r=>simp [h'] at h; subst h; simp [gath_length h']
theorem gath_get:∀ {l:List SV} {ds:List PD},gath l=some ds→∀ j,j<l.length→l.getD j .dead = .pd (ds.getD j (.tup []))
 | [],_,_,j,hj=>by simp at hj
 | x::l,ds,h,j,hj=>by
  cases x <;> simp only [gath,reduceCtorEq] at h
  cases h':gath l with
  | none=>simp [h'] at h
  | some r=>
   simp [h'] at h; subst h
   cases j with
   | zero=>rfl
   | succ j=>simpa using gath_get h' j (by simpa using hj)
theorem Gam.var_cell (g:Gam C s a w E) {t:Nat} {cs:List SV} (hv:s.var t=some cs) {j:Nat} (hj:j<cs.length):
  ∃ v,w.cell? ⟨E.vb t,j,none⟩=some v∧v.oneCell'=true∧Rel C.P w E s.row v (cs.getD j .dead):=by
 obtain ⟨cur,e,⟨_,_,hb⟩,hs,hr⟩:=g.vars t cs hv
 have h:=hr j hj
 refine ⟨cur.getD j undef,?_,h⟩
 rw [cell_of_row w _ j cur e _ hb]
 simp [hs,hj]
theorem Gam.row_cell (g:Gam C s a w E) {i:Nat} {r:Row} (hr:s.row i=some r) {b cap:Nat} (hb:E.rb i=some (b,cap)) {k j:Nat} (hk:k<r.ds.length) (hj:j<r.sz):
  ∃ v,w.cell? ⟨b,k * r.sz+j,none⟩=some v∧Rd w E.G v ((r.ds.getD k (.tup [])).cell j):=by
 rcases g.rows i r hr with ⟨h,_⟩ | ⟨b',cap',cur,h1,⟨_,_,hh⟩,h2,h3,_,_,h6⟩
 ·rw [h] at hb; cases hb
 ·rw [h1] at hb; cases hb
  refine ⟨cur.getD (k * r.sz+j) undef,?_,h6 k j hk hj⟩
  rw [cell_of_row w _ _ cur r.e _ hh]
  have h5:k * r.sz+r.sz≤r.ds.length * r.sz:=by rw [← Nat.succ_mul]; exact Nat.mul_le_mul_right _ hk
  have h7:r.ds.length * r.sz≤cap * r.sz:=Nat.mul_le_mul_right _ h3
  have:k * r.sz+j<cur.size:=by omega
  simp [this]
theorem Gam.row_width (g:Gam C s a w E) {i:Nat} {r:Row} (hr:s.row i=some r) {k:Nat} (hk:k<r.ds.length):(r.ds.getD k (.tup [])).width=r.sz:=by
 rcases g.rows i r hr with ⟨_,h⟩ | ⟨b',cap',cur,h1,_,h2,h3,_,h5,h6⟩
 ·rw [h] at hk; simp at hk
 ·exact h5 k hk
theorem getD_cells_drop (d:PD) (off n j:Nat) (h1:j<n) (h2:off+n≤d.width):((d.cells.drop off).take n).getD j (.tup [])=d.cell (off+j):=by
 rw [getD_drop_take _ _ _ _ _ h1,PD.getD_cells d (off+j) (by omega)]
theorem length_cells_drop (d:PD) (off n:Nat) (h2:off+n≤d.width):((d.cells.drop off).take n).length=n:=by
 simp [PD.length_cells]; omega
theorem ayLoad_ok (g:Gam C s a w E) {t:TypeId} {x v:SV} {vc:Prop} {u:Value} (h:ayLoad C.P s.var s.row t x=some (vc,v)) (hvc:vc) (hu:Rel C.P w E s.row u x):
  ∃ u',(Instr.loadAt t u).run C.P w = .ok u' w∧Rel C.P w E s.row u' v:=by
 cases x with
 | ref d off=>
  obtain ⟨b,base,rfl,hr⟩:=hu
  simp only [ayLoad] at h
  have one:knownT C.P t=true→aggT C.P t=false→off<d.width→∃ u',(Instr.loadAt t (.pointer (some ⟨b,base+off,none⟩))).run C.P w = .ok u' w∧Rel C.P w E s.row u' (.pd (d.cell off)):=by
   intro hk ha hlt
   obtain ⟨_,v',hc,hr'⟩:=hr off hlt
   exact ⟨v',by simp [Instr.loadAt,Instr.sureAddr,run_loadVar_one hk ha hc],hr'.toV⟩
  have many:knownT C.P t=true→aggT C.P t=true→off+szT C.P t≤d.width→szT C.P t≠0→∃ u',(Instr.loadAt t (.pointer (some ⟨b,base+off,none⟩))).run C.P w = .ok u' w∧Rel C.P w E s.row u' (.pd (.tup ((d.cells.drop off).take (szT C.P t)))):=by
   intro hk ha hle hz
   obtain ⟨cs,hl,hv⟩:=load_cells (P:=C.P) (w:=w) (G:=E.G) (b:=b) (o:=base+off) (n:=szT C.P t) (ds:=(d.cells.drop off).take (szT C.P t)) (length_cells_drop d off _ hle) (fun j hj=>by
    obtain ⟨_,v',hc,hr'⟩:=hr (off+j) (by omega)
    rw [← Nat.add_assoc] at hc
    exact ⟨v',hc,by rw [getD_cells_drop d off _ j hj hle]; exact hr'⟩)
   exact ⟨.agg cs,by simp [Instr.loadAt,Instr.sureAddr,run_loadVar_agg hk ha hz rfl hl],hv⟩
  split at h
  ·rename_i ha
   split at h
   ·rename_i h0
    obtain ⟨rfl,hw⟩:=h0
    cases h
    obtain ⟨hk,ht,hz⟩:=hvc
    obtain ⟨u',h1,h2⟩:=many hk ha (by omega) hz
    refine ⟨u',h1,?_⟩
    cases d with
    | tup ds=>
     simp only [PD.cells,PD.width,List.drop_zero] at h2 hw
     rw [hw,List.take_length] at h2
     exact h2
    | raw _=>simp [PD.isTup] at ht
    | list _ _=>simp [PD.isTup] at ht
    | clo _ _=>simp [PD.isTup] at ht
    | mp _ _=>simp [PD.isTup] at ht
   ·cases h; exact many hvc.1 ha hvc.2.1 hvc.2.2
  ·rename_i ha
   cases h; exact one hvc.1 (by simpa using ha) hvc.2
 | vptr v0 off=>
  simp only [Rel] at hu; subst hu
  simp only [ayLoad] at h
  split at h
  ·rename_i cs hv
   split at h
   ·rename_i ha
    split at h
    ·rename_i ds hg
     cases h
     obtain ⟨hk,hle,hz⟩:=hvc
     have hlen:=gath_length hg
     have hget:=gath_get hg
     have hl2:((cs.drop off).take (szT C.P t)).length=szT C.P t:=by simp; omega
     obtain ⟨c,hl,hv'⟩:=load_cells (P:=C.P) (w:=w) (G:=E.G) (b:=E.vb v0) (o:=off) (n:=szT C.P t) (ds:=ds) (by omega) (fun j hj=>by
      obtain ⟨v',hc,h1,hr'⟩:=g.var_cell hv (j:=off+j) (by omega)
      refine ⟨v',hc,?_⟩
      have:=hget j (by omega)
      rw [getD_drop_take _ _ _ _ _ hj] at this
      rw [this] at hr'
      simp only [Rel] at hr'
      generalize ds.getD j (.tup [])=d at hr' ⊢
      cases d with
      | raw _=>exact hr'
      | list _ _=>exact hr'
      | clo _ _=>exact hr'
      | mp _ _=>exact hr'
      | tup l=>obtain ⟨x,rfl,_⟩:=hr'; simp [Value.oneCell'] at h1)
     exact ⟨.agg c,by simp [Instr.loadAt,Instr.sureAddr,run_loadVar_agg hk ha hz rfl hl],hv'⟩
    ·cases h
   ·rename_i ha
    cases h
    obtain ⟨v',hc,_,hr'⟩:=g.var_cell hv hvc.2
    exact ⟨v',by simp [Instr.loadAt,Instr.sureAddr,run_loadVar_one hvc.1 (by simpa using ha) hc],hr'⟩
  ·cases h
 | eptr id i off=>
  simp only [ayLoad] at h
  split at h
  ·rename_i r hrow
   obtain ⟨b,cap,hb,rfl⟩:=hu r hrow
   have many:knownT C.P t=true→aggT C.P t=true→i<r.ds.length→off+szT C.P t≤r.sz→szT C.P t≠0→∃ u',(Instr.loadAt t (.pointer (some ⟨b,i * r.sz+off,none⟩))).run C.P w = .ok u' w∧Rel C.P w E s.row u' (.pd (.tup (((r.ds.getD i (.tup [])).cells.drop off).take (szT C.P t)))):=by
    intro hk ha hi hle hz
    have hw:=g.row_width hrow hi
    obtain ⟨cs,hl,hv⟩:=load_cells (P:=C.P) (w:=w) (G:=E.G) (b:=b) (o:=i * r.sz+off) (n:=szT C.P t) (ds:=((r.ds.getD i (.tup [])).cells.drop off).take (szT C.P t)) (length_cells_drop _ off _ (by omega)) (fun j hj=>by
     obtain ⟨v',hc,hr'⟩:=g.row_cell hrow hb hi (j:=off+j) (by omega)
     rw [← Nat.add_assoc] at hc
     exact ⟨v',hc,by rw [getD_cells_drop _ off _ j hj (by omega)]; exact hr'⟩)
    exact ⟨.agg cs,by simp [Instr.loadAt,Instr.sureAddr,run_loadVar_agg hk ha hz rfl hl],hv⟩
   split at h
   ·rename_i ha
    split at h
    ·rename_i h0
     obtain ⟨rfl,hw⟩:=h0
     cases h
     obtain ⟨hk,hi,ht,hz⟩:=hvc
     obtain ⟨u',h1,h2⟩:=many hk ha hi (by omega) hz
     refine ⟨u',h1,?_⟩
     have hwd:=g.row_width hrow hi
     generalize r.ds.getD i (.tup [])=d at *
     cases d with
     | tup ds=>
      simp only [PD.cells,PD.width,List.drop_zero] at h2 hwd
      rw [hw,← hwd,List.take_length] at h2
      exact h2
     | raw _=>simp [PD.isTup] at ht
     | list _ _=>simp [PD.isTup] at ht
     | clo _ _=>simp [PD.isTup] at ht
     | mp _ _=>simp [PD.isTup] at ht
    ·cases h; exact many hvc.1 ha hvc.2.1 hvc.2.2.1 hvc.2.2.2
   ·rename_i ha
    cases h
    obtain ⟨v',hc,hr'⟩:=g.row_cell hrow hb hvc.2.1 hvc.2.2
    exact ⟨v',by simp [Instr.loadAt,Instr.sureAddr,run_loadVar_one hvc.1 (by simpa using ha) hc],hr'.toV⟩
  ·cases h
 | _=>simp [ayLoad] at h
theorem run_asIntOf (k:IntKind) (i:Int):(asIntOf (.int k i)).run P w = .ok (k,i) w:=rfl
theorem idx_ok {x:SV} {k:IntKind} {i:Int} {u:Value} (h:idx x=some (k,i)) {row:Nat→Option Row} (hu:Rel P w E row u x):u = .int k i:=by
 cases x with
 | pd d=>cases d with
  | raw v=>
   have:=RdV.raw_eq hu
   subst this
   cases u <;> simp [idx] at h
   obtain ⟨rfl,rfl⟩:=h; rfl
  | _=>simp [idx] at h
 | _=>simp [idx] at h
theorem Rd.list_elem {G:Pub} {sz:Nat} {ds:List PD} {v:Value} (h:Rd w G v (.list sz ds)):
  (∃ p,v = .slice p 0 0∧ds=[])∨∃ b off cap,v = .slice (some ⟨b,off,none⟩) ds.length cap∧ds.length≤cap∧cap≤maxLen∧(∀ i,i<ds.length→(ds.getD i (.tup [])).width=sz)∧∀ i,i<ds.length→RdAt w G b (off+i * sz) (ds.getD i (.tup [])):=by
 cases h with
 | nil=>exact .inl ⟨none,rfl,rfl⟩
 | empty _ a=>exact .inl ⟨some a,rfl,rfl⟩
 | list _ _ b off cap vs hcap hmax hw hpub hcell hrd=>
  refine .inr ⟨b,off,cap,rfl,hcap,hmax,hw,fun i hi j hj=>?_⟩
  rw [hw i hi] at hj
  exact ⟨hpub i j hi hj,vs i j,hcell i j hi hj,hrd i j hi hj⟩
theorem Rd.emp {G:Pub} (sz:Nat) (p:Option Addr):Rd w G (.slice p 0 0) (.list sz []):=by
 cases p with
 | none=>exact .nil sz
 | some a=>exact .empty sz a
theorem Rd.list_mk {G:Pub} {sz:Nat} {ds:List PD} {b off cap:Nat} (hcap:ds.length≤cap) (hmax:cap≤maxLen) (hw:∀ i,i<ds.length→(ds.getD i (.tup [])).width=sz)
  (h:∀ i,i<ds.length→RdAt w G b (off+i * sz) (ds.getD i (.tup []))):Rd w G (.slice (some ⟨b,off,none⟩) ds.length cap) (.list sz ds):=by
 have hx:∀ i j,i<ds.length→j<sz→G b (off+i * sz+j)∧∃ v,w.cell? ⟨b,off+i * sz+j,none⟩=some v∧Rd w G v ((ds.getD i (.tup [])).cell j):=fun i j hi hj=>h i hi j (by rw [hw i hi]; exact hj)
 refine .list sz ds b off cap (fun i j=>(w.cell? ⟨b,off+i * sz+j,none⟩).getD undef) hcap hmax hw (fun i j hi hj=>(hx i j hi hj).1) (fun i j hi hj=>?_) (fun i j hi hj=>?_)
 ·obtain ⟨_,v,hc,_⟩:=hx i j hi hj; rw [hc]; rfl
 ·obtain ⟨_,v,hc,hr⟩:=hx i j hi hj; rw [hc]; exact hr
theorem ayIdxAddr_ok {t:TypeId} {x v:SV} {ki:IntKind × Int} {vc:Prop} {u:Value} {row:Nat→Option Row} (hrb:∀ id r,row id=some r→0<r.ds.length→∃ b cap,E.rb id=some (b,cap))
  (h:ayIdxAddr P row t x ki=some (vc,v)) (hvc:vc) (hu:Rel P w E row u x):
  ∃ u',(Instr.indexAt t u (.int ki.1 ki.2)).run P w = .ok u' w∧Rel P w E row u' v:=by
 obtain ⟨k,i⟩:=ki
 unfold ayIdxAddr at h
 split at h
 ·split at h
  ·cases h
  ·rename_i n hn
   obtain ⟨e,hue,hse⟩:=und_arT hn
   have hsz:=run_szT (P:=P) (w:=w) (t:=e) (by omega)
   rw [hse] at hsz
   have core:∀ (b off:Nat),0≤i→i<(n:Int)→(Instr.indexAt t (.pointer (some ⟨b,off,none⟩)) (.int k i)).run P w = .ok (.pointer (some ⟨b,off+i.toNat,none⟩)) w:=by
    intro b off h0 hl
    simp [Instr.indexAt,run_asIntOf,run_underlying hue,Instr.sureAddr,h0,hl,hsz,addr_add]
   split at h
   ·cases h
    obtain ⟨b,base,rfl,hr⟩:=hu
    exact ⟨_,core b _ hvc.1 hvc.2,b,base,by rw [Nat.add_assoc],hr⟩
   ·cases h
    have hu:=(show u=_ from hu)
    subst hu
    exact ⟨_,core _ _ hvc.1 hvc.2,rfl⟩
   ·cases h
 ·rename_i e he
  have hund:=und_slT he
  have core:∀ (b off len cap:Nat) (sz:Nat),szT P e=sz→sz≠0→0≤i→i<(len:Int) →
    (Instr.indexAt t (.slice (some ⟨b,off,none⟩) len cap) (.int k i)).run P w = .ok (.pointer (some ⟨b,off+i.toNat * sz,none⟩)) w:=by
   intro b off len cap sz hs hz h0 hl
   have hsz:=run_szT (P:=P) (w:=w) (t:=e) (by omega)
   rw [hs] at hsz
   simp [Instr.indexAt,run_asIntOf,run_underlying hund,h0,hl,hsz,addr_add]
  split at h
  ·rename_i sz ds
   cases h
   obtain ⟨hs,hz,h0,hl⟩:=hvc
   rcases Rd.list_elem hu with ⟨p,rfl,rfl⟩ | ⟨b,off,cap,rfl,_,_,hw,hr⟩
   ·simp at hl; omega
   ·have hi:i.toNat<ds.length:=by omega
    exact ⟨_,core b off ds.length cap sz hs hz h0 hl,b,off+i.toNat * sz,by simp,hr _ hi⟩
  ·split at h
   ·rename_i id r hrow
    cases h
    obtain ⟨hs,hz,h0,hl⟩:=hvc
    obtain ⟨b,cap,hb⟩:=hrb _ _ hrow (by simp at hl; omega)
    rcases hu r hrow with ⟨h1,rfl⟩ | ⟨b',cap',hb',rfl⟩
    ·rw [h1] at hb; cases hb
    ·refine ⟨_,core b' 0 r.ds.length cap' r.sz hs hz h0 hl,fun r' hr'=>?_⟩
     rw [hrow] at hr'; cases hr'
     exact ⟨b',cap',hb',by simp⟩
   ·cases h
  ·cases h
end
end Go.Abs
