/- A part of the proof: Op, Ay2, Ay3. -/
import Derived.Test.YtjbhhddfaohdnaaGreatDoorPAy
import Derived.Deep.SlicePairs
set_option linter.all false
set_option linter.deprecated false
section
namespace Go.Abs
open Go.ChangeShapes Go.WideShapes
def Pub.heap (w:World):Pub:=fun b _=>b<w.heap.size
section
variable {H:Type} {enc:TypeId × Value→H} {P:Program} {w:World}
def Opens {α:Type} (enc:TypeId × Value→H) (P:Program) (w:World) (t:TypeId) (sz:Nat) (e:α→PD):Prop:=
 (∀ a,(e a).width=sz)∧∀ fuel cs x,DataW.trod enc P w 0 (fun _=>true) true fuel t cs=some x→∃ a:α,cs.length=sz∧∀ j,j<sz→Rd w (Pub.heap w) (cs.getD j undef) ((e a).cell j)
theorem opens_int {t:TypeId} {k:IntKind} (ht:P.underlying t=some (.int k)):Opens enc P w t 1 (fun n:Int=>.raw (.int k n)):=by
 refine ⟨fun _=>rfl,fun fuel cs x h=>?_⟩
 cases fuel with
 | zero=>simp [DataW.trod] at h
 | succ m=>
  unfold DataW.trod at h
  rw [ht] at h
  split at h <;> simp_all
  exact ⟨_,.raw _ rfl⟩
end
end Go.Abs
end
section
namespace Go.Abs
section
variable {C:Cx} {s:St} {a:Act} {w:World} {E:Env} {P:Program} {row:Nat→Option Row}
theorem RdV.tup_of {G:Pub} {v:Value} {d:PD} (h:RdV w G v d) (ht:d.isTup=true):∃ cs:Array Value,v = .agg cs∧cs.size=d.width∧∀ j,j<d.width→Rd w G (cs.getD j undef) (d.cell j):=by
 cases d with
 | tup ds=>exact h
 | raw _=>simp [PD.isTup] at ht
 | list _ _=>simp [PD.isTup] at ht
 | clo _ _=>simp [PD.isTup] at ht
 | mp _ _=>simp [PD.isTup] at ht
theorem run_part {t:TypeId} {cs:Array Value} {off:Nat} {G:Pub} {d:PD} (hk:knownT P t=true) (hs:cs.size=d.width) (hr:∀ j,j<d.width→Rd w G (cs.getD j undef) (d.cell j)):
  (aggT P t=false→off<d.width→∃ u,(part t cs off).run P w = .ok u w∧RdV w G u (d.cell off)) ∧
  (aggT P t=true→szT P t≠0→off+szT P t≤d.width→∃ u,(part t cs off).run P w = .ok u w∧RdV w G u (.tup ((d.cells.drop off).take (szT P t)))):=by
 constructor
 ·intro ha hlt
  have hc:off<cs.size:=by omega
  refine ⟨cs[off],by simp [part,run_aggT hk,ha,hc],?_⟩
  have:=hr off hlt
  simp [hc] at this
  exact this.toV
 ·intro ha hz hle
  refine ⟨.agg (cs.extract off (off+szT P t)),by simp [part,run_aggT hk,ha,run_szT hz],_,rfl,by rw [length_cells_drop d off _ hle]; simp; omega,fun j hj=>?_⟩
  rw [length_cells_drop d off _ hle] at hj
  rw [getD_cells_drop d off _ j hj hle]
  have h1:j<(cs.extract off (off+szT P t)).size:=by simp; omega
  have h2:(cs.extract off (off+szT P t)).getD j undef=cs.getD (off+j) undef:=by
   have h3:off+j<cs.size:=by omega
   simp only [Array.getD_eq_getD_getElem?,Array.getElem?_extract]
   rw [if_pos (by omega)]
  rw [h2]; exact hr (off+j) (by omega)
theorem ayField_ok {t:TypeId} {f:Nat} {x v:SV} {vc:Prop} {u:Value} (h:ayField P t f x=some (vc,v)) (hvc:vc) (hu:Rel P w E row u x):
  ∃ u',(Instr.field t u f).run P w = .ok u' w∧Rel P w E row u' v:=by
 cases x with
 | pd d=>
  simp only [ayField] at h
  split at h
  ·rename_i off ft hf
   obtain ⟨fs,fd,hund,hfd,rfl,rfl⟩:=und_fldT hf
   split at h <;> cases h
   ·rename_i ha
    obtain ⟨hk,ht,hle,hz⟩:=hvc
    obtain ⟨cs,rfl,hs,hr⟩:=RdV.tup_of hu ht
    obtain ⟨u',h1,h2⟩:=(run_part (P:=P) (off:=fd.offset) hk hs hr).2 ha hz hle
    exact ⟨u',by simp [Instr.field,run_underlying hund,hfd,asAgg,h1],h2⟩
   ·rename_i ha
    obtain ⟨hk,ht,hlt⟩:=hvc
    obtain ⟨cs,rfl,hs,hr⟩:=RdV.tup_of hu ht
    obtain ⟨u',h1,h2⟩:=(run_part (P:=P) (off:=fd.offset) hk hs hr).1 (by simpa using ha) hlt
    exact ⟨u',by simp [Instr.field,run_underlying hund,hfd,asAgg,h1],h2⟩
  ·cases h
 | _=>simp [ayField] at h
theorem ayFieldAddr_ok {t:TypeId} {f:Nat} {x v:SV} {vc:Prop} {u:Value} (h:ayFieldAddr P row t f x=some (vc,v)) (hvc:vc) (hu:Rel P w E row u x):
  ∃ u',(Instr.fieldAt t u f).run P w = .ok u' w∧Rel P w E row u' v:=by
 unfold ayFieldAddr at h
 split at h
 ·rename_i off ft hf
  obtain ⟨fs,fd,hund,hfd,rfl,rfl⟩:=und_fldT hf
  have core:∀ b o,szT P fd.type≠0→(Instr.fieldAt t (.pointer (some ⟨b,o,none⟩)) f).run P w = .ok (.pointer (some ⟨b,o+fd.offset,none⟩)) w:=by
   intro b o hz
   simp [Instr.fieldAt,run_underlying hund,hfd,Instr.sureAddr,fieldPlace,run_szT hz,hz,addr_add]
  cases x with
  | ref d o=>
   cases h
   obtain ⟨b,base,rfl,hr⟩:=hu
   exact ⟨_,core b (base+o) hvc,b,base,by simp [Nat.add_assoc],hr⟩
  | vptr v0 o=>
   cases h
   simp only [Rel] at hu; subst hu
   exact ⟨_,core _ o hvc,rfl⟩
  | eptr id i o=>
   simp only at h
   split at h <;> cases h
   rename_i hs
   obtain ⟨r,hr⟩:=Option.isSome_iff_exists.1 hs
   obtain ⟨b,cap,hb,rfl⟩:=hu r hr
   refine ⟨_,core b _ hvc,fun r' hr'=>?_⟩
   rw [hr] at hr'; cases hr'
   exact ⟨b,cap,hb,by simp [Nat.add_assoc]⟩
  | _=>cases h
 ·cases h
theorem ayLen_ok {t ty:TypeId} {x v:SV} {vc:Prop} {u:Value} (h:ayLen P row t x=some (vc,v)) (hvc:vc) (hu:Rel P w E row u x) (hnil:∀ id r,row id=some r→E.rb id=none→r.ds=[]):
  ∃ u',(Builtin.len_ #[t] ty #[u]).run P w = .ok u' w∧Rel P w E row u' v:=by
 have core:∀ o n c,(slT P t).isSome=true→(Builtin.len_ #[t] ty #[.slice o n c]).run P w = .ok (.int .i64 n) w:=by
  intro o n c hs
  cases he:slT P t with
  | none=>simp [he] at hs
  | some e=>simp [Builtin.len_,run_underlying (und_slT he),goInt]
 unfold ayLen at h
 split at h
 ·rename_i sz ds
  cases h
  rcases Rd.list_elem hu with ⟨p,rfl,rfl⟩ | ⟨b,off,cap,rfl,_⟩
  ·exact ⟨_,core _ _ _ hvc,.raw _ rfl⟩
  ·exact ⟨_,core _ _ _ hvc,.raw _ rfl⟩
 ·cases h
  have:=RdV.raw_eq hu; subst this
  exact ⟨_,core _ _ _ hvc,.raw _ rfl⟩
 ·cases h
  have:=RdV.raw_eq hu; subst this
  exact ⟨_,by simp [Builtin.len_,run_underlying (und_strT hvc),goInt],.raw _ rfl⟩
 ·split at h
  ·rename_i id r hr
   cases h
   rcases hu r hr with ⟨h1,rfl⟩ | ⟨b,cap,h1,rfl⟩
   ·have:=hnil _ _ hr h1
    rw [this]
    exact ⟨_,core _ _ _ hvc,.raw _ rfl⟩
   ·exact ⟨_,core _ _ _ hvc,.raw _ rfl⟩
  ·cases h
 ·cases h
theorem Rel.bool {b:Bool} {u:Value} (h:Rel P w E row u (.pd (.raw (.bool b)))):u = .bool b:=RdV.raw_eq h
theorem ayPick_ok {x y z v:SV} {vc:Prop} {ux uy uz:Value} (h:ayPick x y z=some (vc,v)) (hvc:vc) (hx:Rel P w E row ux x) (hy:Rel P w E row uy y) (hz:Rel P w E row uz z):
  ∃ c,ux = .bool c∧Rel P w E row (if c then uy else uz) v:=by
 unfold ayPick at h
 split at h <;> first | cases h | skip
 ·rename_i c x y
  have:=Rel.bool hx; subst this
  refine ⟨c,rfl,?_⟩
  have h1:=Rel.bool hy; have h2:=Rel.bool hz; subst h1; subst h2
  cases c <;> exact .raw _ rfl
 ·rename_i c c' x y
  have:=Rel.bool hx; subst this
  refine ⟨c,rfl,?_⟩
  have h2:=Rel.bool hz; subst h2
  cases c
  ·exact .raw _ rfl
  ·have h1:=Rel.bool (hy (hvc rfl)); subst h1; exact .raw _ rfl
 ·rename_i c x c' y
  have:=Rel.bool hx; subst this
  refine ⟨c,rfl,?_⟩
  have h1:=Rel.bool hy; subst h1
  cases c
  ·have h2:=Rel.bool (hz (hvc rfl)); subst h2; exact .raw _ rfl
  ·exact .raw _ rfl
 ·have:=Rel.bool hx; subst this
  exact ⟨true,rfl,by simpa using hy⟩
 ·have:=Rel.bool hx; subst this
  exact ⟨false,rfl,by simpa using hz⟩
theorem bound_ok {d:Int} {x:Option SV} {i:Int} (h:bound d x=some i) {u:Option Value} (hu:∀ y,x=some y→∃ v,u=some v∧Rel P w E row v y) (hn:x=none→u=none):
  (x=none∧u=none∧i=d)∨∃ k,u=some (.int k i):=by
 cases x with
 | none=>simp only [bound,Option.some.injEq] at h; exact .inl ⟨rfl,hn rfl,h.symm⟩
 | some y=>
  obtain ⟨v,rfl,hv⟩:=hu y rfl
  cases y with
  | pd q=>cases q with
   | raw r=>
    have:=RdV.raw_eq hv; subst this
    cases v <;> simp [bound] at h
    subst h; exact .inr ⟨_,rfl⟩
   | _=>simp [bound] at h
  | _=>simp [bound] at h
theorem run_sliceBound {k:IntKind} {i:Int} {y:Nat} {c:BoundsCode} (h0:0≤i) (h1:i≤(y:Int)):(Instr.sliceBound (.int k i) y c).run P w = .ok i.toNat w:=by
 simp [Instr.sliceBound,run_asIntOf,h0,h1]
theorem run_sliceBounds {b:Bool} {len cap:Nat} {lo hi:Option Value} {l h:Int} (hlo:(lo=none∧l=0)∨∃ k,lo=some (.int k l)) (hhi:(hi=none∧h=len)∨∃ k,hi=some (.int k h))
  (h0:0≤l) (h1:l≤h) (h2:h≤len) (h3:len≤cap):(Instr.sliceBounds b len cap lo hi none).run P w = .ok (l.toNat,h.toNat,cap) w:=by
 have a1:h≤(cap:Int):=by omega
 have a2:l≤((h.toNat:Nat):Int):=by omega
 have a3:0≤h:=by omega
 rcases hlo with ⟨rfl,rfl⟩ | ⟨k,rfl⟩ <;> rcases hhi with ⟨rfl,rfl⟩ | ⟨k',rfl⟩
 ·simp [Instr.sliceBounds]
 ·simp [Instr.sliceBounds,run_sliceBound a3 a1]
 ·have:=run_sliceBound (P:=P) (w:=w) (k:=k) (i:=l) (y:=len) (c:=.sliceB) h0 h1
  simp [Instr.sliceBounds,this]
 ·simp [Instr.sliceBounds,run_sliceBound a3 a1,run_sliceBound h0 a2]
theorem aySlice_ok {t:TypeId} {x v:SV} {lo hi:Option SV} {vc:Prop} {u:Value} {ulo uhi:Option Value} (h:aySlice P t x lo hi=some (vc,v)) (hvc:vc) (hu:Rel P w E row u x)
  (hlo:∀ y,lo=some y→∃ v,ulo=some v∧Rel P w E row v y) (hlo':lo=none→ulo=none) (hhi:∀ y,hi=some y→∃ v,uhi=some v∧Rel P w E row v y) (hhi':hi=none→uhi=none):
  ∃ u',(Instr.sliceAt t u ulo uhi none).run P w = .ok u' w∧Rel P w E row u' v:=by
 unfold aySlice at h
 split at h
 ·rename_i sz ds
  split at h
  ·rename_i e l hh hs hbl hbh
   cases h
   obtain ⟨h1,hz,h0,hlh,hhd⟩:=hvc
   have bl:(ulo=none∧l=0)∨∃ k,ulo=some (.int k l):=by
    rcases bound_ok hbl hlo hlo' with ⟨_,h,h'⟩ | h
    ·exact .inl ⟨h,h'⟩
    ·exact .inr h
   have bh:(uhi=none∧hh=(ds.length:Int))∨∃ k,uhi=some (.int k hh):=by
    rcases bound_ok hbh hhi hhi' with ⟨_,h,h'⟩ | h
    ·exact .inl ⟨h,h'⟩
    ·exact .inr h
   have hund:=und_slT hs
   have hsz:(sizeOf e).run P w = .ok sz w:=by rw [← h1]; exact run_szT (by omega)
   have hl:((ds.take hh.toNat).drop l.toNat).length=hh.toNat - l.toNat:=by simp; omega
   rcases Rd.list_elem hu with ⟨p,rfl,rfl⟩ | ⟨b,off,cap,rfl,hcap,hmax,hw,hr⟩
   ·simp at hhd
    have e1:l=0:=by omega
    have e2:hh=0:=by omega
    subst e1; subst e2
    refine ⟨.slice p 0 0,?_,by simpa [Rel,RdV] using Rd.emp (w:=w) (G:=E.G) sz p⟩
    have hb:=run_sliceBounds (P:=P) (w:=w) (b:=true) (len:=0) (cap:=0) (lo:=ulo) (hi:=uhi) (l:=0) (h:=0) bl (by simpa using bh) (by omega) (by omega) (by simp) (Nat.le_refl _)
    cases p <;> simp [Instr.sliceAt,Instr.slice,run_underlying hund,hb,hsz]
   ·have hb:=run_sliceBounds (P:=P) (w:=w) (b:=true) (len:=ds.length) (cap:=cap) bl bh h0 hlh hhd hcap
    have hget:∀ i,i<hh.toNat - l.toNat→((ds.take hh.toNat).drop l.toNat).getD i (.tup [])=ds.getD (l.toNat+i) (.tup []):=by
     intro i hi
     simp only [List.getD_eq_getElem?_getD,List.getElem?_drop,List.getElem?_take]
     rw [if_pos (by omega)]
    by_cases hc:cap=l.toNat
    ·refine ⟨.slice (some ⟨b,off,none⟩) (hh.toNat - l.toNat) (cap - l.toNat),by simp only [Instr.sliceAt,Instr.slice,Sem.run_bind,run_underlying hund,Result.andThen_ok,hb,hsz,Sem.run_pure,if_pos hc],?_⟩
     have h0:hh.toNat - l.toNat=0:=by omega
     have hnil:(ds.take hh.toNat).drop l.toNat=[]:=List.eq_nil_of_length_eq_zero (by omega)
     rw [hnil]
     have:=Rd.list_mk (w:=w) (G:=E.G) (sz:=sz) (ds:=[]) (b:=b) (off:=off) (cap:=cap - l.toNat) (by simp) (by omega) (by simp) (by simp)
     simpa [h0,Rel,RdV] using this
    ·refine ⟨.slice (some ⟨b,off+l.toNat * sz,none⟩) (hh.toNat - l.toNat) (cap - l.toNat),by simp [Instr.sliceAt,Instr.slice,run_underlying hund,hb,hsz,hc,addr_add],?_⟩
     rw [← hl]
     refine Rd.list_mk (by omega) (by omega) (fun i hi=>?_) (fun i hi=>?_)
     ·rw [hl] at hi; rw [hget i hi]; exact hw _ (by omega)
     ·rw [hl] at hi; rw [hget i hi]
      have:=hr (l.toNat+i) (by omega)
      rwa [Nat.add_mul,← Nat.add_assoc] at this
  ·cases h
 ·rename_i st
  split at h
  ·rename_i l hh hbl hbh
   cases h
   obtain ⟨hs,h0,hlh,hhd⟩:=hvc
   have:=RdV.raw_eq hu; subst this
   have bl:(ulo=none∧l=0)∨∃ k,ulo=some (.int k l):=by
    rcases bound_ok hbl hlo hlo' with ⟨_,h,h'⟩ | h
    ·exact .inl ⟨h,h'⟩
    ·exact .inr h
   have bh:(uhi=none∧hh=(st.size:Int))∨∃ k,uhi=some (.int k hh):=by
    rcases bound_ok hbh hhi hhi' with ⟨_,h,h'⟩ | h
    ·exact .inl ⟨h,h'⟩
    ·exact .inr h
   have hund:=und_strT hs
   have hb:=run_sliceBounds (P:=P) (w:=w) (b:=false) (len:=st.size) (cap:=st.size) bl bh h0 hlh hhd (Nat.le_refl _)
   exact ⟨_,by simp [Instr.sliceAt,Instr.slice,run_underlying hund,hb],.raw _ rfl⟩
  ·cases h
 ·cases h
end
end Go.Abs
end
section
namespace Go.Abs
section
variable {C:Cx} {s:St} {a:Act} {w:World} {E:Env} {P:Program} {row:Nat→Option Row}
theorem ayNil_ok {x v:SV} {vc:Prop} {u:Value} (h:ayNil row x=some (vc,v)) (hu:Rel P w E row u x) (ρ:Operand→Value) (xo:Operand) (hx:ρ xo=u) (o:Oper) (ho:o.op = .nilCheck xo):
  (execOp ρ o).run P w = .ok (.value u) w∧Rel P w E row u v:=by
 have hv:v=x:=by unfold ayNil at h; split at h <;> first | (cases h; rfl) | (split at h <;> cases h; rfl) | cases h
 subst hv
 refine ⟨?_,hu⟩
 unfold ayNil at h
 unfold execOp
 simp only [ho,hx]
 split at h <;> first | (cases h; done) | skip
 ·obtain ⟨b,base,rfl,_⟩:=hu; rfl
 ·simp only [Rel] at hu; subst hu; rfl
 ·split at h <;> cases h
  rename_i hs
  obtain ⟨r,hr⟩:=Option.isSome_iff_exists.1 hs
  obtain ⟨b,cap,_,rfl⟩:=hu r hr; rfl
 ·obtain ⟨f,first,caps,rfl,_⟩:=hu; rfl
 ·simp only [Rel] at hu; subst hu; rfl
 ·have:=RdV.raw_eq hu; subst this; rfl
 ·cases hu; rfl
theorem caps_ok:∀ {l:List SV} {ts:List Nat} {vs:List Value},caps l=some ts→vs.length=l.length→(∀ i,i<l.length→Rel P w E row (vs.getD i undef) (l.getD i .dead)) →
  vs=ts.map fun t=>.pointer (some ⟨E.vb t,0,none⟩)
 | [],ts,vs,h,hl,_=>by simp only [caps,Option.some.injEq] at h; subst h; simpa using hl
 | x::l,ts,[],h,hl,_=>by simp at hl
 | x::l,ts,v::vs,h,hl,hr=>by
  unfold caps at h
  split at h
  ·rename_i he; cases he
  ·rename_i t l' he
   cases he
   cases h':caps l with
   | none=>simp [h'] at h
   | some r=>
    simp [h'] at h; subst h
    have h0:=hr 0 (by simp)
    simp only [List.getD_cons_zero,Rel] at h0
    rw [List.map_cons,← h0,← caps_ok h' (by simpa using hl) (fun i hi=>by simpa using hr (i+1) (by simpa using hi))]
  ·cases h
def RdL (w:World) (G:Pub) (vs:List Value) (ds:List PD):Prop:=vs.length=ds.length∧∀ j,j<ds.length→Rd w G (vs.getD j undef) (ds.getD j (.tup []))
theorem RdV.cells {G:Pub} {v:Value} {d:PD} (h:RdV w G v d):RdL w G v.cells.toList d.cells:=by
 cases d with
 | tup ds=>
  obtain ⟨cs,rfl,hs,hr⟩:=h
  refine ⟨by simpa [Value.cells,PD.cells] using hs,fun j hj=>?_⟩
  simp only [PD.cells] at hj
  have:=hr j hj
  simpa [Value.cells,PD.cells,Array.getD_eq_getD_getElem?,List.getD_eq_getElem?_getD] using this
 | raw u=>
  have hv:v.cells = #[v]:=by have:=Rd.oneCell h; cases v <;> simp_all [Value.cells,Value.oneCell']
  rw [hv]
  refine ⟨rfl,fun j hj=>?_⟩
  have hj0:j<1:=hj
  obtain rfl:j=0:=by omega
  exact h
 | list sz ds=>
  have hv:v.cells = #[v]:=by have:=Rd.oneCell h; cases v <;> simp_all [Value.cells,Value.oneCell']
  rw [hv]
  refine ⟨rfl,fun j hj=>?_⟩
  have hj0:j<1:=hj
  obtain rfl:j=0:=by omega
  exact h
 | clo _ _=>
  have hv:v.cells = #[v]:=by have:=Rd.oneCell h; cases v <;> simp_all [Value.cells,Value.oneCell']
  rw [hv]
  refine ⟨rfl,fun j hj=>?_⟩
  have hj0:j<1:=hj
  obtain rfl:j=0:=by omega
  exact h
 | mp _ _=>
  have hv:v.cells = #[v]:=by have:=Rd.oneCell h; cases v <;> simp_all [Value.cells,Value.oneCell']
  rw [hv]
  refine ⟨rfl,fun j hj=>?_⟩
  have hj0:j<1:=hj
  obtain rfl:j=0:=by omega
  exact h
theorem RdL.splice {G:Pub} {vs us:List Value} {ds es:List PD} {off:Nat} (h:RdL w G vs ds) (k:RdL w G us es) (hle:off+es.length≤ds.length):
  RdL w G (vs.take off++us++vs.drop (off+us.length)) (ds.take off++es++ds.drop (off+es.length)):=by
 obtain ⟨h1,h2⟩:=h
 obtain ⟨k1,k2⟩:=k
 refine ⟨by simp; omega,fun j hj=>?_⟩
 have hv:(vs.take off).length=off:=by simp; omega
 have hd:(ds.take off).length=off:=by simp; omega
 simp only [List.length_append,List.length_drop,hd] at hj
 simp only [List.getD_eq_getElem?_getD,List.append_assoc] at *
 by_cases c1:j<off
 ·rw [List.getElem?_append_left (by omega),List.getElem?_append_left (by omega),List.getElem?_take,List.getElem?_take,if_pos c1,if_pos c1]
  exact h2 j (by omega)
 ·have e1:(vs.take off++(us++vs.drop (off+us.length)))[j]? = (us++vs.drop (off+us.length))[j - off]?:=by rw [List.getElem?_append_right (by omega),hv]
  have e2:(ds.take off++(es++ds.drop (off+es.length)))[j]? = (es++ds.drop (off+es.length))[j - off]?:=by rw [List.getElem?_append_right (by omega),hd]
  rw [e1,e2]
  by_cases c2:j - off<es.length
  ·rw [List.getElem?_append_left (by omega),List.getElem?_append_left (by omega)]
   exact k2 _ c2
  ·have e3:(us++vs.drop (off+us.length))[j - off]? = vs[j]?:=by rw [List.getElem?_append_right (by omega),List.getElem?_drop]; congr 1; omega
   have e4:(es++ds.drop (off+es.length))[j - off]? = ds[j]?:=by rw [List.getElem?_append_right (by omega),List.getElem?_drop]; congr 1; omega
   rw [e3,e4]
   exact h2 j (by omega)
theorem fill_splice (us:List Value):∀ (cells:Array Value) (off:Nat),off+us.length≤cells.size →
  ((us.zipIdx).foldl (fun cs (p:Value × Nat)=>cs.setIfInBounds (off+p.2) p.1) cells).toList=cells.toList.take off++us++cells.toList.drop (off+us.length):=by
 suffices H:∀ (us:List Value) (k:Nat) (cells:Array Value) (off:Nat),off+k+us.length≤cells.size →
   ((us.zipIdx k).foldl (fun cs (p:Value × Nat)=>cs.setIfInBounds (off+p.2) p.1) cells).toList=cells.toList.take (off+k)++us++cells.toList.drop (off+k+us.length) by
  intro cells off h
  simpa using H us 0 cells off (by simpa using h)
 intro us
 induction us with
 | nil=>intro k cells off _; simp
 | cons u us ih=>
  intro k cells off h
  simp only [List.length_cons] at h
  simp only [List.zipIdx_cons,List.foldl_cons]
  rw [ih (k+1) _ off (by simp; omega)]
  simp only [Array.toList_setIfInBounds,List.length_cons]
  have h1:off+k<cells.toList.length:=by simp; omega
  rw [show off+(k+1)=(off+k)+1 from by omega,List.take_set,List.drop_set,if_pos (by omega),List.take_succ_eq_append_getElem h1]
  rw [List.set_append_right _ _ (by simp; omega)]
  have h2:off+k - (cells.toList.take (off+k)).length=0:=by simp; omega
  rw [h2]
  simp [Nat.add_assoc,Nat.add_comm,Nat.add_left_comm]
theorem fill_ok {t:TypeId} {fs:Array Field} (hund:P.underlying t=some (.struct fs)) {places:Array (Nat × Nat)} (hpl:∀ i off ft,fldT P t i=some (off,ft)→szT P ft≠0→places[i]? = some (off,szT P ft)) {G:Pub}:
  ∀ (ps:List (Nat × PD)) (us:List (Nat × Value)) (zs:List PD) (cs:Array Value) {vc:Prop} {r:List PD},fillD P t zs ps=some (vc,r)→vc→RdL w G cs.toList zs →
   us.length=ps.length→(∀ i,i<ps.length→(us.getD i (0,undef)).1=(ps.getD i (0,.tup [])).1∧RdV w G (us.getD i (0,undef)).2 (ps.getD i (0,.tup [])).2) →
   ∃ cells,Instr.fill (places[·]?) cs us=some cells∧RdL w G cells.toList r
 | [],us,zs,cs,vc,r,h,_,hz,hl,_=>by
  simp only [fillD,Option.some.injEq,Prod.mk.injEq] at h
  obtain ⟨_,rfl⟩:=h
  have:us=[]:=List.eq_nil_of_length_eq_zero (by simpa using hl)
  subst this
  exact ⟨cs,rfl,hz⟩
 | (i,d)::ps,[],zs,cs,vc,r,h,_,hz,hl,_=>by simp at hl
 | (i,d)::ps,(i',u)::us,zs,cs,vc,r,h,hvc,hz,hl,hr=>by
  have h0:=hr 0 (by simp)
  simp only [List.getD_cons_zero] at h0
  obtain ⟨rfl,hu⟩:=h0
  simp only [fillD] at h
  split at h
  ·rename_i off ft hf
   split at h
   ·rename_i p r' hrec
    cases h
    obtain ⟨hz0,hw,hle,hp⟩:=hvc
    have hc:=RdV.cells hu
    have hcl:u.cells.toList.length=d.width:=by rw [hc.1,PD.length_cells]
    have hcs:cs.size=zs.length:=by have:=hz.1; simpa using this
    have hus:u.cells.size=d.width:=by simpa using hcl
    simp only [Instr.fill,hpl i' off ft hf hz0]
    have hcond:¬ ((decide (u.cells.size≠szT P ft) || decide (off+u.cells.size > cs.size))=true):=by
     simp; omega
    rw [if_neg hcond]
    have hsp:=fill_splice u.cells.toList cs off (by simp; omega)
    have hfold:(u.cells.zipIdx.foldl (fun cs (p:Value × Nat)=>cs.setIfInBounds (off+p.2) p.1) cs)=((u.cells.toList.zipIdx).foldl (fun cs (p:Value × Nat)=>cs.setIfInBounds (off+p.2) p.1) cs):=by
     rw [← Array.foldl_toList]; simp
    refine fill_ok hund hpl ps us _ _ hrec hp ?_ (by simpa using hl) (fun j hj=>by simpa using hr (j+1) (by simpa using hj))
    have:=hz.splice hc (off:=off) (by rw [PD.length_cells]; exact hle)
    rw [PD.length_cells] at this
    rw [hfold,hsp]
    exact this
   ·cases h
  ·cases h
theorem partsD_ok (ρ':Operand→Value) (ρ:Operand→SV):∀ {l:List (Nat × Operand)} {ps:List (Nat × PD)},partsD ρ l=some ps→(∀ p∈l,Rel P w E row (ρ' p.2) (ρ p.2)) →
  (l.map fun p=>(p.1,ρ' p.2)).length=ps.length∧∀ i,i<ps.length→((l.map fun p=>(p.1,ρ' p.2)).getD i (0,undef)).1=(ps.getD i (0,.tup [])).1∧RdV w E.G ((l.map fun p=>(p.1,ρ' p.2)).getD i (0,undef)).2 (ps.getD i (0,.tup [])).2
 | [],ps,h,_=>by simp only [partsD,Option.some.injEq] at h; subst h; simp
 | (i,x)::l,ps,h,hr=>by
  simp only [partsD] at h
  split at h
  ·rename_i d r hx hl
   cases h
   obtain ⟨h1,h2⟩:=partsD_ok ρ' ρ hl (fun p hp=>hr p (List.mem_cons_of_mem _ hp))
   have h0:=hr (i,x) (List.mem_cons_self ..)
   simp only [hx] at h0
   refine ⟨by simpa using h1,fun j hj=>?_⟩
   cases j with
   | zero=>exact ⟨rfl,h0⟩
   | succ j=>simpa using h2 j (by simpa using hj)
  ·cases h
end
end Go.Abs
end
