/- A part of the proof. -/
import Derived.Test.YtjbhhddfaohdnaaGreatDoorPAy
import Derived.Deep.SlicePairs
set_option linter.all false
set_option linter.deprecated false
open Go renaming run_underlying→ajY
open Go.Instr renaming field→auV,fieldAt→aqX,sliceBound→au2,sliceBounds→apJ,sliceAt→apw,slice→arK
open Go.Value renaming cells→aqd,oneCell'→amd
section
namespace Go.au
open Go.ChangeShapes Go.WideShapes
def Pub.heap (w:World):Pub:=fun b _=>b<w.heap.size
section
variable {H:Type} {enc:TypeId × Value→H} {P:Program} {w:World}
def Opens {α:Type} (enc:TypeId × Value→H) (P:Program) (w:World) (t:TypeId) (sz:Nat) (e:α→PD):Prop:=
 (∀ a,(e a).width=sz)∧∀ fuel cs x,DataW.trod enc P w 0 (fun _=>true) true fuel t cs=some x→∃ a:α,cs.length=sz∧∀ j,j<sz→Rd w (Pub.heap w) (cs.getD j undef) ((e a).cell j)
theorem V6 {t:TypeId} {k:IntKind} (ht:P.underlying t=some (.int k)):Opens enc P w t 1 (fun n:Int=>.raw (.int k n)):=by
 refine ⟨fun _=>rfl,fun fuel cs x h=>?_⟩
 cases fuel with
 | zero=>simp [DataW.trod] at h
 | succ m=>
  unfold DataW.trod at h
  rw [ht] at h
  split at h <;> simp_all
  exact ⟨_,.raw _ rfl⟩
end
end Go.au
end
section
namespace Go.au
section
variable {C:Cx} {s:St} {a:Act} {w:World} {E:Env} {P:Program} {row:Nat→Option Row}
theorem aP.V7 {G:Pub} {v:Value} {d:PD} (h:aP w G v d) (ht:d.iF=true):∃ cs:Array Value,v = .agg cs∧cs.size=d.width∧∀ j,j<d.width→Rd w G (cs.getD j undef) (d.cell j):=by
 cases d with
 | ak ds=>exact h
 | raw _=>simp [PD.iF] at ht
 | list _ _=>simp [PD.iF] at ht
 | clo _ _=>simp [PD.iF] at ht
 | mp _ _=>simp [PD.iF] at ht
theorem Oe {t:TypeId} {cs:Array Value} {off:Nat} {G:Pub} {d:PD} (hk:bC P t=true) (hs:cs.size=d.width) (hr:∀ j,j<d.width→Rd w G (cs.getD j undef) (d.cell j)):
  (dU P t=false→off<d.width→∃ u,(part t cs off).run P w = .ok u w∧aP w G u (d.cell off)) ∧
  (dU P t=true→aV P t≠0→off+aV P t≤d.width→∃ u,(part t cs off).run P w = .ok u w∧aP w G u (.ak ((d.cells.drop off).take (aV P t)))):=by
 constructor
 ·intro ha hlt
  have hc:off<cs.size:=by omega
  refine ⟨cs[off],by simp [part,yQ hk,ha,hc],?_⟩
  have:=hr off hlt
  simp [hc] at this
  exact this.Ew
 ·intro ha hz hle
  refine ⟨.agg (cs.extract off (off+aV P t)),by simp [part,yQ hk,ha,kN hz],_,rfl,by rw [nJ d off _ hle]; simp; omega,fun j hj=>?_⟩
  rw [nJ d off _ hle] at hj
  rw [uj d off _ j hj hle]
  have h1:j<(cs.extract off (off+aV P t)).size:=by simp; omega
  have h2:(cs.extract off (off+aV P t)).getD j undef=cs.getD (off+j) undef:=by
   have h3:off+j<cs.size:=by omega
   simp only [ab1,Array.getElem?_extract]
   rw [ab8 (by omega)]
  rw [h2]; exact hr (off+j) (by omega)
theorem TG {t:TypeId} {f:Nat} {x v:SV} {vc:Prop} {u:Value} (h:yI P t f x=some (vc,v)) (bF:vc) (hu:Rel P w E row u x):
  ∃ u',(auV t u f).run P w = .ok u' w∧Rel P w E row u' v:=by
 cases x with
 | pd d=>
  simp only [yI] at h
  split at h
  ·rename_i off ft hf
   obtain ⟨fs,fd,fB,hfd,rfl,rfl⟩:=Hr hf
   split at h <;> cases h
   ·rename_i ha
    obtain ⟨hk,ht,hle,hz⟩:=bF
    obtain ⟨cs,rfl,hs,hr⟩:=aP.V7 hu ht
    obtain ⟨u',h1,h2⟩:=(Oe (P:=P) (off:=fd.offset) hk hs hr).2 ha hz hle
    exact ⟨u',by simp [auV,ajY fB,hfd,asAgg,h1],h2⟩
   ·rename_i ha
    obtain ⟨hk,ht,hlt⟩:=bF
    obtain ⟨cs,rfl,hs,hr⟩:=aP.V7 hu ht
    obtain ⟨u',h1,h2⟩:=(Oe (P:=P) (off:=fd.offset) hk hs hr).1 (by simpa using ha) hlt
    exact ⟨u',by simp [auV,ajY fB,hfd,asAgg,h1],h2⟩
  ·cases h
 | _=>simp [yI] at h
theorem Kt {t:TypeId} {f:Nat} {x v:SV} {vc:Prop} {u:Value} (h:o7 P row t f x=some (vc,v)) (bF:vc) (hu:Rel P w E row u x):
  ∃ u',(aqX t u f).run P w = .ok u' w∧Rel P w E row u' v:=by
 unfold o7 at h
 split at h
 ·rename_i off ft hf
  obtain ⟨fs,fd,fB,hfd,rfl,rfl⟩:=Hr hf
  have core:∀ b o,aV P fd.type≠0→(aqX t (.pointer (some ⟨b,o,none⟩)) f).run P w = .ok (.pointer (some ⟨b,o+fd.offset,none⟩)) w:=by
   intro b o hz
   simp [aqX,ajY fB,hfd,Instr.sureAddr,fieldPlace,kN hz,hz,addr_add]
  cases x with
  | ref d o=>
   cases h
   obtain ⟨b,base,rfl,hr⟩:=hu
   exact ⟨_,core b (base+o) bF,b,base,by simp [anq],hr⟩
  | aJ v0 o=>
   cases h
   simp only [Rel] at hu; subst hu
   exact ⟨_,core _ o bF,rfl⟩
  | je id i o=>
   simp only at h
   split at h <;> cases h
   rename_i hs
   obtain ⟨r,hr⟩:=ant.1 hs
   obtain ⟨b,cap,hb,rfl⟩:=hu r hr
   refine ⟨_,core b _ bF,fun r' hr'=>?_⟩
   rw [hr] at hr'; cases hr'
   exact ⟨b,cap,hb,by simp [anq]⟩
  | _=>cases h
 ·cases h
theorem Y6 {t ty:TypeId} {x v:SV} {vc:Prop} {u:Value} (h:CG P row t x=some (vc,v)) (bF:vc) (hu:Rel P w E row u x) (hnil:∀ id r,row id=some r→E.rb id=none→r.ds=[]):
  ∃ u',(Builtin.len_ #[t] ty #[u]).run P w = .ok u' w∧Rel P w E row u' v:=by
 have core:∀ o n c,(fA P t).isSome=true→(Builtin.len_ #[t] ty #[.slice o n c]).run P w = .ok (.int .i64 n) w:=by
  intro o n c hs
  cases he:fA P t with
  | none=>simp [he] at hs
  | some e=>simp [Builtin.len_,ajY (lI he),goInt]
 unfold CG at h
 split at h
 ·rename_i sz ds
  cases h
  rcases Rd.mV hu with ⟨p,rfl,rfl⟩ | ⟨b,off,cap,rfl,_⟩
  ·exact ⟨_,core _ _ _ bF,.raw _ rfl⟩
  ·exact ⟨_,core _ _ _ bF,.raw _ rfl⟩
 ·cases h
  have:=aP.aN hu; subst this
  exact ⟨_,core _ _ _ bF,.raw _ rfl⟩
 ·cases h
  have:=aP.aN hu; subst this
  exact ⟨_,by simp [Builtin.len_,ajY (vU bF),goInt],.raw _ rfl⟩
 ·split at h
  ·rename_i id r hr
   cases h
   rcases hu r hr with ⟨h1,rfl⟩ | ⟨b,cap,h1,rfl⟩
   ·have:=hnil _ _ hr h1
    rw [this]
    exact ⟨_,core _ _ _ bF,.raw _ rfl⟩
   ·exact ⟨_,core _ _ _ bF,.raw _ rfl⟩
  ·cases h
 ·split at h
  ·rename_i id k _ r hr
   cases h
   obtain ⟨_,b,cap,_,rfl⟩:=hu r hr
   exact ⟨_,core _ _ _ bF,.raw _ rfl⟩
  ·cases h
 ·cases h
theorem Rel.bool {b:Bool} {u:Value} (h:Rel P w E row u (.pd (.raw (.bool b)))):u = .bool b:=aP.aN h
theorem V8 {x y z v:SV} {vc:Prop} {ux uy uz:Value} (h:Ez x y z=some (vc,v)) (bF:vc) (hx:Rel P w E row ux x) (hy:Rel P w E row uy y) (hz:Rel P w E row uz z):
  ∃ c,ux = .bool c∧Rel P w E row (if c then uy else uz) v:=by
 unfold Ez at h
 split at h <;> first | cases h | skip
 ·rename_i c x y
  have:=Rel.bool hx; subst this
  refine ⟨c,rfl,?_⟩
  have h1:=Rel.bool hy; have h2:=Rel.bool hz; subst h1; subst h2
  cases c <;> exact .raw _ rfl
 ·rename_i c c' x y
  have:=Rel.bool hx; subst this
  refine ⟨c,rfl,?_⟩
  have h2:=Rel.bool hz; subst h2
  cases c
  ·exact .raw _ rfl
  ·have h1:=Rel.bool (hy (bF rfl)); subst h1; exact .raw _ rfl
 ·rename_i c x c' y
  have:=Rel.bool hx; subst this
  refine ⟨c,rfl,?_⟩
  have h1:=Rel.bool hy; subst h1
  cases c
  ·have h2:=Rel.bool (hz (bF rfl)); subst h2; exact .raw _ rfl
  ·exact .raw _ rfl
 ·have:=Rel.bool hx; subst this
  exact ⟨true,rfl,by simpa using hy⟩
 ·have:=Rel.bool hx; subst this
  exact ⟨false,rfl,by simpa using hz⟩
theorem CS {d:Int} {x:Option SV} {i:Int} (h:bound d x=some i) {u:Option Value} (hu:∀ y,x=some y→∃ v,u=some v∧Rel P w E row v y) (hn:x=none→u=none):
  (x=none∧u=none∧i=d)∨∃ k,u=some (.int k i):=by
 cases x with
 | none=>simp only [bound,adQ] at h; exact .inl ⟨rfl,hn rfl,h.symm⟩
 | some y=>
  obtain ⟨v,rfl,hv⟩:=hu y rfl
  cases y with
  | pd q=>cases q with
   | raw r=>
    have:=aP.aN hv; subst this
    cases v <;> simp [bound] at h
    subst h; exact .inr ⟨_,rfl⟩
   | _=>simp [bound] at h
  | _=>simp [bound] at h
theorem run_sliceBound {k:IntKind} {i:Int} {y:Nat} {c:BoundsCode} (h0:0≤i) (h1:i≤(y:Int)):(au2 (.int k i) y c).run P w = .ok i.toNat w:=by
 simp [au2,wJ,h0,h1]
theorem pW {b:Bool} {len cap:Nat} {lo hi:Option Value} {l h:Int} (hlo:(lo=none∧l=0)∨∃ k,lo=some (.int k l)) (hhi:(hi=none∧h=len)∨∃ k,hi=some (.int k h))
  (h0:0≤l) (h1:l≤h) (h2:h≤len) (h3:len≤cap):(apJ b len cap lo hi none).run P w = .ok (l.toNat,h.toNat,cap) w:=by
 have a1:h≤(cap:Int):=by omega
 have a2:l≤((h.toNat:Nat):Int):=by omega
 have a3:0≤h:=by omega
 rcases hlo with ⟨rfl,rfl⟩ | ⟨k,rfl⟩ <;> rcases hhi with ⟨rfl,rfl⟩ | ⟨k',rfl⟩
 ·simp [apJ]
 ·simp [apJ,run_sliceBound a3 a1]
 ·have:=run_sliceBound (P:=P) (w:=w) (k:=k) (i:=l) (y:=len) (c:=.sliceB) h0 h1
  simp [apJ,this]
 ·simp [apJ,run_sliceBound a3 a1,run_sliceBound h0 a2]
theorem TI {t:TypeId} {x v:SV} {lo hi:Option SV} {vc:Prop} {u:Value} {I7 I8:Option Value} (h:Bv P t x lo hi=some (vc,v)) (bF:vc) (hu:Rel P w E row u x)
  (hlo:∀ y,lo=some y→∃ v,I7=some v∧Rel P w E row v y) (adH:lo=none→I7=none) (hhi:∀ y,hi=some y→∃ v,I8=some v∧Rel P w E row v y) (adI:hi=none→I8=none):
  ∃ u',(apw t u I7 I8 none).run P w = .ok u' w∧Rel P w E row u' v:=by
 unfold Bv at h
 split at h
 ·rename_i sz ds
  split at h
  ·rename_i e l hh hs hbl hbh
   cases h
   obtain ⟨h1,hz,h0,hlh,hhd⟩:=bF
   have bl:(I7=none∧l=0)∨∃ k,I7=some (.int k l):=by
    rcases CS hbl hlo adH with ⟨_,h,h'⟩ | h
    ·exact .inl ⟨h,h'⟩
    ·exact .inr h
   have bh:(I8=none∧hh=(ds.length:Int))∨∃ k,I8=some (.int k hh):=by
    rcases CS hbh hhi adI with ⟨_,h,h'⟩ | h
    ·exact .inl ⟨h,h'⟩
    ·exact .inr h
   have fB:=lI hs
   have hsz:(sizeOf e).run P w = .ok sz w:=by rw [← h1]; exact kN (by omega)
   have hl:((ds.take hh.toNat).drop l.toNat).length=hh.toNat - l.toNat:=by simp; omega
   rcases Rd.mV hu with ⟨p,rfl,rfl⟩ | ⟨b,off,cap,rfl,hcap,hmax,hw,hr⟩
   ·simp at hhd
    have e1:l=0:=by omega
    have e2:hh=0:=by omega
    subst e1; subst e2
    refine ⟨.slice p 0 0,?_,by simpa [Rel,aP] using Rd.emp (w:=w) (G:=E.G) sz p⟩
    have hb:=pW (P:=P) (w:=w) (b:=true) (len:=0) (cap:=0) (lo:=I7) (hi:=I8) (l:=0) (h:=0) bl (by simpa using bh) (by omega) (by omega) (by simp) (agM _)
    cases p <;> simp [apw,arK,ajY fB,hb,hsz]
   ·have hb:=pW (P:=P) (w:=w) (b:=true) (len:=ds.length) (cap:=cap) bl bh h0 hlh hhd hcap
    have hget:∀ i,i<hh.toNat - l.toNat→((ds.take hh.toNat).drop l.toNat).getD i (.ak [])=ds.getD (l.toNat+i) (.ak []):=by
     intro i hi
     simp only [abp,apz,amK]
     rw [ab8 (by omega)]
    by_cases hc:cap=l.toNat
    ·refine ⟨.slice (some ⟨b,off,none⟩) (hh.toNat - l.toNat) (cap - l.toNat),by simp only [apw,arK,Sem.run_bind,ajY fB,Result.andThen_ok,hb,hsz,Sem.run_pure,ab8 hc],?_⟩
     have h0:hh.toNat - l.toNat=0:=by omega
     have hnil:(ds.take hh.toNat).drop l.toNat=[]:=anT (by omega)
     rw [hnil]
     have:=Rd.qN (w:=w) (G:=E.G) (sz:=sz) (ds:=[]) (b:=b) (off:=off) (cap:=cap - l.toNat) (by simp) (by omega) (by simp) (by simp)
     simpa [h0,Rel,aP] using this
    ·refine ⟨.slice (some ⟨b,off+l.toNat * sz,none⟩) (hh.toNat - l.toNat) (cap - l.toNat),by simp [apw,arK,ajY fB,hb,hsz,hc,addr_add],?_⟩
     rw [← hl]
     refine Rd.qN (by omega) (by omega) (fun i hi=>?_) (fun i hi=>?_)
     ·rw [hl] at hi; rw [hget i hi]; exact hw _ (by omega)
     ·rw [hl] at hi; rw [hget i hi]
      have:=hr (l.toNat+i) (by omega)
      rwa [anf,← anq] at this
  ·cases h
 ·rename_i st
  split at h
  ·rename_i l hh hbl hbh
   cases h
   obtain ⟨hs,h0,hlh,hhd⟩:=bF
   have:=aP.aN hu; subst this
   have bl:(I7=none∧l=0)∨∃ k,I7=some (.int k l):=by
    rcases CS hbl hlo adH with ⟨_,h,h'⟩ | h
    ·exact .inl ⟨h,h'⟩
    ·exact .inr h
   have bh:(I8=none∧hh=(st.size:Int))∨∃ k,I8=some (.int k hh):=by
    rcases CS hbh hhi adI with ⟨_,h,h'⟩ | h
    ·exact .inl ⟨h,h'⟩
    ·exact .inr h
   have fB:=vU hs
   have hb:=pW (P:=P) (w:=w) (b:=false) (len:=st.size) (cap:=st.size) bl bh h0 hlh hhd (agM _)
   exact ⟨_,by simp [apw,arK,ajY fB,hb],.raw _ rfl⟩
  ·cases h
 ·cases h
end
section
variable {C:Cx} {s:St} {a:Act} {w:World} {E:Env} {P:Program} {row:Nat→Option Row}
theorem Y7 {x v:SV} {vc:Prop} {u:Value} (h:CJ row x=some (vc,v)) (hu:Rel P w E row u x) (ρ:Operand→Value) (xo:Operand) (hx:ρ xo=u) (o:Oper) (ho:o.op = .nilCheck xo):
  (execOp ρ o).run P w = .ok (.value u) w∧Rel P w E row u v:=by
 have hv:v=x:=by unfold CJ at h; split at h <;> first | (cases h; rfl) | (split at h <;> cases h; rfl) | cases h
 subst hv
 refine ⟨?_,hu⟩
 unfold CJ at h
 unfold execOp
 simp only [ho,hx]
 split at h <;> first | (cases h; done) | skip
 ·obtain ⟨b,base,rfl,_⟩:=hu; rfl
 ·simp only [Rel] at hu; subst hu; rfl
 ·split at h <;> cases h
  rename_i hs
  obtain ⟨r,hr⟩:=ant.1 hs
  obtain ⟨b,cap,_,rfl⟩:=hu r hr; rfl
 ·obtain ⟨f,first,caps,rfl,_⟩:=hu; rfl
 ·simp only [Rel] at hu; subst hu; rfl
 ·have:=aP.aN hu; subst this; rfl
 ·cases hu; rfl
theorem Rt:∀ {l:List SV} {ts:List Nat} {vs:List Value},caps l=some ts→vs.length=l.length→(∀ i,i<l.length→Rel P w E row (vs.getD i undef) (l.getD i .dead)) →
  vs=ts.map fun t=>.pointer (some ⟨E.vb t,0,none⟩)
 | [],ts,vs,h,hl,_=>by simp only [caps,adQ] at h; subst h; simpa using hl
 | x::l,ts,[],h,hl,_=>by simp at hl
 | x::l,ts,v::vs,h,hl,hr=>by
  unfold caps at h
  split at h
  ·rename_i he; cases he
  ·rename_i t l' he
   cases he
   cases h':caps l with
   | none=>simp [h'] at h
   | some r=>
    simp [h'] at h; subst h
    have h0:=hr 0 (by simp)
    simp only [amv,Rel] at h0
    rw [acn,← h0,← Rt h' (by simpa using hl) (fun i hi=>by simpa using hr (i+1) (by simpa using hi))]
  ·cases h
def Og (w:World) (G:Pub) (vs:List Value) (ds:List PD):Prop:=vs.length=ds.length∧∀ j,j<ds.length→Rd w G (vs.getD j undef) (ds.getD j (.ak []))
theorem aP.cells {G:Pub} {v:Value} {d:PD} (h:aP w G v d):Og w G v.cells.toList d.cells:=by
 cases d with
 | ak ds=>
  obtain ⟨cs,rfl,hs,hr⟩:=h
  refine ⟨by simpa [aqd,PD.cells] using hs,fun j hj=>?_⟩
  simp only [PD.cells] at hj
  have:=hr j hj
  simpa [aqd,PD.cells,ab1,abp] using this
 | raw u=>
  have hv:v.cells = #[v]:=by have:=Rd.oneCell h; cases v <;> simp_all [aqd,amd]
  rw [hv]
  refine ⟨rfl,fun j hj=>?_⟩
  have hj0:j<1:=hj
  obtain rfl:j=0:=by omega
  exact h
 | list sz ds=>
  have hv:v.cells = #[v]:=by have:=Rd.oneCell h; cases v <;> simp_all [aqd,amd]
  rw [hv]
  refine ⟨rfl,fun j hj=>?_⟩
  have hj0:j<1:=hj
  obtain rfl:j=0:=by omega
  exact h
 | clo _ _=>
  have hv:v.cells = #[v]:=by have:=Rd.oneCell h; cases v <;> simp_all [aqd,amd]
  rw [hv]
  refine ⟨rfl,fun j hj=>?_⟩
  have hj0:j<1:=hj
  obtain rfl:j=0:=by omega
  exact h
 | mp _ _=>
  have hv:v.cells = #[v]:=by have:=Rd.oneCell h; cases v <;> simp_all [aqd,amd]
  rw [hv]
  refine ⟨rfl,fun j hj=>?_⟩
  have hj0:j<1:=hj
  obtain rfl:j=0:=by omega
  exact h
theorem Og.splice {G:Pub} {vs us:List Value} {ds es:List PD} {off:Nat} (h:Og w G vs ds) (k:Og w G us es) (hle:off+es.length≤ds.length):
  Og w G (vs.take off++us++vs.drop (off+us.length)) (ds.take off++es++ds.drop (off+es.length)):=by
 obtain ⟨h1,h2⟩:=h
 obtain ⟨k1,k2⟩:=k
 refine ⟨by simp; omega,fun j hj=>?_⟩
 have hv:(vs.take off).length=off:=by simp; omega
 have hd:(ds.take off).length=off:=by simp; omega
 simp only [agU,amy,hd] at hj
 simp only [abp,akr] at *
 by_cases c1:j<off
 ·rw [akc (by omega),akc (by omega),amK,amK,ab8 c1,ab8 c1]
  exact h2 j (by omega)
 ·have e1:(vs.take off++(us++vs.drop (off+us.length)))[j]? = (us++vs.drop (off+us.length))[j - off]?:=by rw [akE (by omega),hv]
  have e2:(ds.take off++(es++ds.drop (off+es.length)))[j]? = (es++ds.drop (off+es.length))[j - off]?:=by rw [akE (by omega),hd]
  rw [e1,e2]
  by_cases c2:j - off<es.length
  ·rw [akc (by omega),akc (by omega)]
   exact k2 _ c2
  ·have e3:(us++vs.drop (off+us.length))[j - off]? = vs[j]?:=by rw [akE (by omega),apz]; congr 1; omega
   have e4:(es++ds.drop (off+es.length))[j - off]? = ds[j]?:=by rw [akE (by omega),apz]; congr 1; omega
   rw [e3,e4]
   exact h2 j (by omega)
theorem Gy (us:List Value):∀ (cells:Array Value) (off:Nat),off+us.length≤cells.size →
  ((us.zipIdx).foldl (fun cs (p:Value × Nat)=>cs.setIfInBounds (off+p.2) p.1) cells).toList=cells.toList.take off++us++cells.toList.drop (off+us.length):=by
 suffices H:∀ (us:List Value) (k:Nat) (cells:Array Value) (off:Nat),off+k+us.length≤cells.size →
   ((us.zipIdx k).foldl (fun cs (p:Value × Nat)=>cs.setIfInBounds (off+p.2) p.1) cells).toList=cells.toList.take (off+k)++us++cells.toList.drop (off+k+us.length) by
  intro cells off h
  simpa using H us 0 cells off (by simpa using h)
 intro us
 induction us with
 | nil=>intro k cells off _; simp
 | cons u us ih=>
  intro k cells off h
  simp only [List.length_cons] at h
  simp only [List.zipIdx_cons,List.foldl_cons]
  rw [ih (k+1) _ off (by simp; omega)]
  simp only [ap5,List.length_cons]
  have h1:off+k<cells.toList.length:=by simp; omega
  rw [show off+(k+1)=(off+k)+1 from by omega,List.take_set,List.drop_set,ab8 (by omega),abq h1]
  rw [aoY _ _ (by simp; omega)]
  have h2:off+k - (cells.toList.take (off+k)).length=0:=by simp; omega
  rw [h2]
  simp [anq,aq7,Nat.add_left_comm]
theorem Ru {t:TypeId} {fs:Array Field} (fB:P.underlying t=some (.struct fs)) {places:Array (Nat × Nat)} (hpl:∀ i off ft,dP P t i=some (off,ft)→aV P ft≠0→places[i]? = some (off,aV P ft)) {G:Pub}:
  ∀ (ps:List (Nat × PD)) (us:List (Nat × Value)) (zs:List PD) (cs:Array Value) {vc:Prop} {r:List PD},CO P t zs ps=some (vc,r)→vc→Og w G cs.toList zs →
   us.length=ps.length→(∀ i,i<ps.length→(us.getD i (0,undef)).1=(ps.getD i (0,.ak [])).1∧aP w G (us.getD i (0,undef)).2 (ps.getD i (0,.ak [])).2) →
   ∃ cells,Instr.fill (places[·]?) cs us=some cells∧Og w G cells.toList r
 | [],us,zs,cs,vc,r,h,_,hz,hl,_=>by
  simp only [CO,adQ,aoA] at h
  obtain ⟨_,rfl⟩:=h
  have:us=[]:=anT (by simpa using hl)
  subst this
  exact ⟨cs,rfl,hz⟩
 | (i,d)::ps,[],zs,cs,vc,r,h,_,hz,hl,_=>by simp at hl
 | (i,d)::ps,(i',u)::us,zs,cs,vc,r,h,bF,hz,hl,hr=>by
  have h0:=hr 0 (by simp)
  simp only [amv] at h0
  obtain ⟨rfl,hu⟩:=h0
  simp only [CO] at h
  split at h
  ·rename_i off ft hf
   split at h
   ·rename_i p r' hrec
    cases h
    obtain ⟨hz0,hw,hle,hp⟩:=bF
    have hc:=aP.cells hu
    have hcl:u.cells.toList.length=d.width:=by rw [hc.1,PD.cO]
    have hcs:cs.size=zs.length:=by have:=hz.1; simpa using this
    have hus:u.cells.size=d.width:=by simpa using hcl
    simp only [Instr.fill,hpl i' off ft hf hz0]
    have hcond:¬ ((decide (u.cells.size≠aV P ft) || decide (off+u.cells.size > cs.size))=true):=by
     simp; omega
    rw [abQ hcond]
    have hsp:=Gy u.cells.toList cs off (by simp; omega)
    have hfold:(u.cells.zipIdx.foldl (fun cs (p:Value × Nat)=>cs.setIfInBounds (off+p.2) p.1) cs)=((u.cells.toList.zipIdx).foldl (fun cs (p:Value × Nat)=>cs.setIfInBounds (off+p.2) p.1) cs):=by
     rw [← Array.foldl_toList]; simp
    refine Ru fB hpl ps us _ _ hrec hp ?_ (by simpa using hl) (fun j hj=>by simpa using hr (j+1) (by simpa using hj))
    have:=hz.splice hc (off:=off) (by rw [PD.cO]; exact hle)
    rw [PD.cO] at this
    rw [hfold,hsp]
    exact this
   ·cases h
  ·cases h
theorem Lj (ρ':Operand→Value) (ρ:Operand→SV):∀ {l:List (Nat × Operand)} {ps:List (Nat × PD)},rG ρ l=some ps→(∀ p∈l,Rel P w E row (ρ' p.2) (ρ p.2)) →
  (l.map fun p=>(p.1,ρ' p.2)).length=ps.length∧∀ i,i<ps.length→((l.map fun p=>(p.1,ρ' p.2)).getD i (0,undef)).1=(ps.getD i (0,.ak [])).1∧aP w E.G ((l.map fun p=>(p.1,ρ' p.2)).getD i (0,undef)).2 (ps.getD i (0,.ak [])).2
 | [],ps,h,_=>by simp only [rG,adQ] at h; subst h; simp
 | (i,x)::l,ps,h,hr=>by
  simp only [rG] at h
  split at h
  ·rename_i d r hx hl
   cases h
   obtain ⟨h1,h2⟩:=Lj ρ' ρ hl (fun p hp=>hr p (adW _ hp))
   have h0:=hr (i,x) (adX ..)
   simp only [hx] at h0
   refine ⟨by simpa using h1,fun j hj=>?_⟩
   cases j with
   | zero=>exact ⟨rfl,h0⟩
   | succ j=>simpa using h2 j (by simpa using hj)
  ·cases h
end
end Go.au
end
