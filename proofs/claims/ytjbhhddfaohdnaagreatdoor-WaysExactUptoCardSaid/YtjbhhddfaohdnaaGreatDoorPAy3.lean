/- A part of the proof. -/
import Derived.Test.YtjbhhddfaohdnaaGreatDoorPAy
import Derived.Deep.SlicePairs
set_option linter.all false
set_option linter.deprecated false
open Go renaming run_underlying→aeG
open Go.Instr renaming field→avV,fieldAt→ar4,sliceBound→av5,sliceBounds→aqx,sliceAt→aoC,slice→aqw
open Go.Value renaming cells→aq9,oneCell'→ak6
section
namespace Go.au
open Go.ChangeShapes Go.WideShapes
def Pub.heap (w:World):Pub:=fun b _=>b<w.heap.size
section
variable {H:Type} {enc:TypeId × Value→H} {P:Program} {w:World}
def Opens {α:Type} (enc:TypeId × Value→H) (P:Program) (w:World) (t:TypeId) (sz:Nat) (e:α→PD):Prop:=
 (∀ a,(e a).width=sz)∧∀ fuel cs x,DataW.trod enc P w 0 (fun _=>true) true fuel t cs=some x→∃ a:α,cs.length=sz∧∀ j,j<sz→Rd w (Pub.heap w) (cs.getD j undef) ((e a).cell j)
theorem Xe {t:TypeId} {k:IntKind} (ht:P.underlying t=some (.int k)):Opens enc P w t 1 (fun n:Int=>.raw (.int k n)):=by
 refine ⟨fun _=>rfl,fun fuel cs x h=>?_⟩
 cases fuel with
 | zero=>simp [DataW.trod] at h
 | succ m=>
  unfold DataW.trod at h
  rw [ht] at h
  split at h <;> simp_all
  exact ⟨_,.raw _ rfl⟩
end
end Go.au
end
section
namespace Go.au
section
variable {C:Cx} {s:St} {a:Act} {w:World} {E:Env} {P:Program} {row:Nat→Option Row}
theorem aK.Xf {G:Pub} {v:Value} {d:PD} (h:aK w G v d) (ht:d.iy=true):∃ cs:Array Value,v = .agg cs∧cs.size=d.width∧∀ j,j<d.width→Rd w G (cs.getD j undef) (d.cell j):=by
 cases d with
 | aj ds=>exact h
 | raw _=>simp [PD.iy] at ht
 | list _ _=>simp [PD.iy] at ht
 | clo _ _=>simp [PD.iy] at ht
 | mp _ _=>simp [PD.iy] at ht
theorem OX {t:TypeId} {cs:Array Value} {off:Nat} {G:Pub} {d:PD} (hk:aT P t=true) (hs:cs.size=d.width) (hr:∀ j,j<d.width→Rd w G (cs.getD j undef) (d.cell j)):
  (dH P t=false→off<d.width→∃ u,(part t cs off).run P w = .ok u w∧aK w G u (d.cell off)) ∧
  (dH P t=true→aP P t≠0→off+aP P t≤d.width→∃ u,(part t cs off).run P w = .ok u w∧aK w G u (.aj ((d.cells.drop off).take (aP P t)))):=by
 constructor
 ·intro ha hlt
  have hc:off<cs.size:=by omega
  refine ⟨cs[off],by simp [part,yB hk,ha,hc],?_⟩
  have:=hr off hlt
  simp [hc] at this
  exact this.Bl
 ·intro ha hz hle
  refine ⟨.agg (cs.extract off (off+aP P t)),by simp [part,yB hk,ha,jm hz],_,rfl,by rw [mV d off _ hle]; simp; omega,fun j hj=>?_⟩
  rw [mV d off _ hle] at hj
  rw [tX d off _ j hj hle]
  have h1:j<(cs.extract off (off+aP P t)).size:=by simp; omega
  have h2:(cs.extract off (off+aP P t)).getD j undef=cs.getD (off+j) undef:=by
   have h3:off+j<cs.size:=by omega
   simp only [ab5,Array.getElem?_extract]
   rw [acA (by omega)]
  rw [h2]; exact hr (off+j) (by omega)
theorem UJ {t:TypeId} {f:Nat} {x v:SV} {vc:Prop} {u:Value} (h:uZ P t f x=some (vc,v)) (aY:vc) (hu:Rel P w E row u x):
  ∃ u',(avV t u f).run P w = .ok u' w∧Rel P w E row u' v:=by
 cases x with
 | pd d=>
  simp only [uZ] at h
  split at h
  ·rename_i off ft hf
   obtain ⟨fs,fd,fA,hfd,rfl,rfl⟩:=Ic hf
   split at h <;> cases h
   ·rename_i ha
    obtain ⟨hk,ht,hle,hz⟩:=aY
    obtain ⟨cs,rfl,hs,hr⟩:=aK.Xf hu ht
    obtain ⟨u',h1,h2⟩:=(OX (P:=P) (off:=fd.offset) hk hs hr).2 ha hz hle
    exact ⟨u',by simp [avV,aeG fA,hfd,asAgg,h1],h2⟩
   ·rename_i ha
    obtain ⟨hk,ht,hlt⟩:=aY
    obtain ⟨cs,rfl,hs,hr⟩:=aK.Xf hu ht
    obtain ⟨u',h1,h2⟩:=(OX (P:=P) (off:=fd.offset) hk hs hr).1 (by simpa using ha) hlt
    exact ⟨u',by simp [avV,aeG fA,hfd,asAgg,h1],h2⟩
  ·cases h
 | _=>simp [uZ] at h
theorem KP {t:TypeId} {f:Nat} {x v:SV} {vc:Prop} {u:Value} (h:mF P row t f x=some (vc,v)) (aY:vc) (hu:Rel P w E row u x):
  ∃ u',(ar4 t u f).run P w = .ok u' w∧Rel P w E row u' v:=by
 unfold mF at h
 split at h
 ·rename_i off ft hf
  obtain ⟨fs,fd,fA,hfd,rfl,rfl⟩:=Ic hf
  have core:∀ b o,aP P fd.type≠0→(ar4 t (.pointer (some ⟨b,o,none⟩)) f).run P w = .ok (.pointer (some ⟨b,o+fd.offset,none⟩)) w:=by
   intro b o hz
   simp [ar4,aeG fA,hfd,Instr.sureAddr,fieldPlace,jm hz,hz,addr_add]
  cases x with
  | ref d o=>
   cases h
   obtain ⟨b,base,rfl,hr⟩:=hu
   exact ⟨_,core b (base+o) aY,b,base,by simp [anT],hr⟩
  | aG v0 o=>
   cases h
   simp only [Rel] at hu; subst hu
   exact ⟨_,core _ o aY,rfl⟩
  | iR id i o=>
   simp only at h
   split at h <;> cases h
   rename_i hs
   obtain ⟨r,hr⟩:=akP.1 hs
   obtain ⟨b,cap,hb,rfl⟩:=hu r hr
   refine ⟨_,core b _ aY,fun r' hr'=>?_⟩
   rw [hr] at hr'; cases hr'
   exact ⟨b,cap,hb,by simp [anT]⟩
  | _=>cases h
 ·cases h
theorem ZG {t ty:TypeId} {x v:SV} {vc:Prop} {u:Value} (h:zB P row t x=some (vc,v)) (aY:vc) (hu:Rel P w E row u x) (hnil:∀ id r,row id=some r→E.rb id=none→r.ds=[]):
  ∃ u',(Builtin.len_ #[t] ty #[u]).run P w = .ok u' w∧Rel P w E row u' v:=by
 have core:∀ o n c,(fC P t).isSome=true→(Builtin.len_ #[t] ty #[.slice o n c]).run P w = .ok (.int .i64 n) w:=by
  intro o n c hs
  cases he:fC P t with
  | none=>simp [he] at hs
  | some e=>simp [Builtin.len_,aeG (gX he),goInt]
 unfold zB at h
 split at h
 ·rename_i sz ds
  cases h
  rcases Rd.lQ hu with ⟨p,rfl,rfl⟩ | ⟨b,off,cap,rfl,_⟩
  ·exact ⟨_,core _ _ _ aY,.raw _ rfl⟩
  ·exact ⟨_,core _ _ _ aY,.raw _ rfl⟩
 ·cases h
  have:=aK.aJ hu; subst this
  exact ⟨_,core _ _ _ aY,.raw _ rfl⟩
 ·cases h
  have:=aK.aJ hu; subst this
  exact ⟨_,by simp [Builtin.len_,aeG (uY aY),goInt],.raw _ rfl⟩
 ·split at h
  ·rename_i id r hr
   cases h
   rcases hu r hr with ⟨h1,rfl⟩ | ⟨b,cap,h1,rfl⟩
   ·have:=hnil _ _ hr h1
    rw [this]
    exact ⟨_,core _ _ _ aY,.raw _ rfl⟩
   ·exact ⟨_,core _ _ _ aY,.raw _ rfl⟩
  ·cases h
 ·split at h
  ·rename_i id k _ r hr
   cases h
   obtain ⟨_,b,cap,_,rfl⟩:=hu r hr
   exact ⟨_,core _ _ _ aY,.raw _ rfl⟩
  ·cases h
 ·cases h
theorem Rel.bool {b:Bool} {u:Value} (h:Rel P w E row u (.pd (.raw (.bool b)))):u = .bool b:=aK.aJ h
theorem Xg {x y z v:SV} {vc:Prop} {ux uy uz:Value} (h:Bv x y z=some (vc,v)) (aY:vc) (hx:Rel P w E row ux x) (hy:Rel P w E row uy y) (hz:Rel P w E row uz z):
  ∃ c,ux = .bool c∧Rel P w E row (if c then uy else uz) v:=by
 unfold Bv at h
 split at h <;> first | cases h | skip
 ·rename_i c x y
  have:=Rel.bool hx; subst this
  refine ⟨c,rfl,?_⟩
  have h1:=Rel.bool hy; have h2:=Rel.bool hz; subst h1; subst h2
  cases c <;> exact .raw _ rfl
 ·rename_i c c' x y
  have:=Rel.bool hx; subst this
  refine ⟨c,rfl,?_⟩
  have h2:=Rel.bool hz; subst h2
  cases c
  ·exact .raw _ rfl
  ·have h1:=Rel.bool (hy (aY rfl)); subst h1; exact .raw _ rfl
 ·rename_i c x c' y
  have:=Rel.bool hx; subst this
  refine ⟨c,rfl,?_⟩
  have h1:=Rel.bool hy; subst h1
  cases c
  ·have h2:=Rel.bool (hz (aY rfl)); subst h2; exact .raw _ rfl
  ·exact .raw _ rfl
 ·have:=Rel.bool hx; subst this
  exact ⟨true,rfl,by simpa using hy⟩
 ·have:=Rel.bool hx; subst this
  exact ⟨false,rfl,by simpa using hz⟩
theorem CS {d:Int} {x:Option SV} {i:Int} (h:bound d x=some i) {u:Option Value} (hu:∀ y,x=some y→∃ v,u=some v∧Rel P w E row v y) (hn:x=none→u=none):
  (x=none∧u=none∧i=d)∨∃ k,u=some (.int k i):=by
 cases x with
 | none=>simp only [bound,acX] at h; exact .inl ⟨rfl,hn rfl,h.symm⟩
 | some y=>
  obtain ⟨v,rfl,hv⟩:=hu y rfl
  cases y with
  | pd q=>cases q with
   | raw r=>
    have:=aK.aJ hv; subst this
    cases v <;> simp [bound] at h
    subst h; exact .inr ⟨_,rfl⟩
   | _=>simp [bound] at h
  | _=>simp [bound] at h
theorem run_sliceBound {k:IntKind} {i:Int} {y:Nat} {c:BoundsCode} (h0:0≤i) (h1:i≤(y:Int)):(av5 (.int k i) y c).run P w = .ok i.toNat w:=by
 simp [av5,vP,h0,h1]
theorem jS {b:Bool} {len cap:Nat} {lo hi:Option Value} {l h:Int} (hlo:(lo=none∧l=0)∨∃ k,lo=some (.int k l)) (hhi:(hi=none∧h=len)∨∃ k,hi=some (.int k h))
  (h0:0≤l) (h1:l≤h) (h2:h≤len) (h3:len≤cap):(aqx b len cap lo hi none).run P w = .ok (l.toNat,h.toNat,cap) w:=by
 have a1:h≤(cap:Int):=by omega
 have a2:l≤((h.toNat:Nat):Int):=by omega
 have a3:0≤h:=by omega
 rcases hlo with ⟨rfl,rfl⟩ | ⟨k,rfl⟩ <;> rcases hhi with ⟨rfl,rfl⟩ | ⟨k',rfl⟩
 ·simp [aqx]
 ·simp [aqx,run_sliceBound a3 a1]
 ·have:=run_sliceBound (P:=P) (w:=w) (k:=k) (i:=l) (y:=len) (c:=.sliceB) h0 h1
  simp [aqx,this]
 ·simp [aqx,run_sliceBound a3 a1,run_sliceBound h0 a2]
theorem UK {t:TypeId} {x v:SV} {lo hi:Option SV} {vc:Prop} {u:Value} {Jm Jo:Option Value} (h:yh P t x lo hi=some (vc,v)) (aY:vc) (hu:Rel P w E row u x)
  (hlo:∀ y,lo=some y→∃ v,Jm=some v∧Rel P w E row v y) (aej:lo=none→Jm=none) (hhi:∀ y,hi=some y→∃ v,Jo=some v∧Rel P w E row v y) (aek:hi=none→Jo=none):
  ∃ u',(aoC t u Jm Jo none).run P w = .ok u' w∧Rel P w E row u' v:=by
 unfold yh at h
 split at h
 ·rename_i sz ds
  split at h
  ·rename_i e l hh hs hbl hbh
   cases h
   obtain ⟨h1,hz,h0,hlh,hhd⟩:=aY
   have bl:(Jm=none∧l=0)∨∃ k,Jm=some (.int k l):=by
    rcases CS hbl hlo aej with ⟨_,h,h'⟩ | h
    ·exact .inl ⟨h,h'⟩
    ·exact .inr h
   have bh:(Jo=none∧hh=(ds.length:Int))∨∃ k,Jo=some (.int k hh):=by
    rcases CS hbh hhi aek with ⟨_,h,h'⟩ | h
    ·exact .inl ⟨h,h'⟩
    ·exact .inr h
   have fA:=gX hs
   have hsz:(sizeOf e).run P w = .ok sz w:=by rw [← h1]; exact jm (by omega)
   have hl:((ds.take hh.toNat).drop l.toNat).length=hh.toNat - l.toNat:=by simp; omega
   rcases Rd.lQ hu with ⟨p,rfl,rfl⟩ | ⟨b,off,cap,rfl,hcap,hmax,hw,hr⟩
   ·simp at hhd
    have e1:l=0:=by omega
    have e2:hh=0:=by omega
    subst e1; subst e2
    refine ⟨.slice p 0 0,?_,by simpa [Rel,aK] using Rd.emp (w:=w) (G:=E.G) sz p⟩
    have hb:=jS (P:=P) (w:=w) (b:=true) (len:=0) (cap:=0) (lo:=Jm) (hi:=Jo) (l:=0) (h:=0) bl (by simpa using bh) (by omega) (by omega) (by simp) (ael _)
    cases p <;> simp [aoC,aqw,aeG fA,hb,hsz]
   ·have hb:=jS (P:=P) (w:=w) (b:=true) (len:=ds.length) (cap:=cap) bl bh h0 hlh hhd hcap
    have hget:∀ i,i<hh.toNat - l.toNat→((ds.take hh.toNat).drop l.toNat).getD i (.aj [])=ds.getD (l.toNat+i) (.aj []):=by
     intro i hi
     simp only [ab2,aqp,anE]
     rw [acA (by omega)]
    by_cases hc:cap=l.toNat
    ·refine ⟨.slice (some ⟨b,off,none⟩) (hh.toNat - l.toNat) (cap - l.toNat),by simp only [aoC,aqw,Sem.run_bind,aeG fA,Result.andThen_ok,hb,hsz,Sem.run_pure,acA hc],?_⟩
     have h0:hh.toNat - l.toNat=0:=by omega
     have hnil:(ds.take hh.toNat).drop l.toNat=[]:=aps (by omega)
     rw [hnil]
     have:=Rd.oK (w:=w) (G:=E.G) (sz:=sz) (ds:=[]) (b:=b) (off:=off) (cap:=cap - l.toNat) (by simp) (by omega) (by simp) (by simp)
     simpa [h0,Rel,aK] using this
    ·refine ⟨.slice (some ⟨b,off+l.toNat * sz,none⟩) (hh.toNat - l.toNat) (cap - l.toNat),by simp [aoC,aqw,aeG fA,hb,hsz,hc,addr_add],?_⟩
     rw [← hl]
     refine Rd.oK (by omega) (by omega) (fun i hi=>?_) (fun i hi=>?_)
     ·rw [hl] at hi; rw [hget i hi]; exact hw _ (by omega)
     ·rw [hl] at hi; rw [hget i hi]
      have:=hr (l.toNat+i) (by omega)
      rwa [anQ,← anT] at this
  ·cases h
 ·rename_i st
  split at h
  ·rename_i l hh hbl hbh
   cases h
   obtain ⟨hs,h0,hlh,hhd⟩:=aY
   have:=aK.aJ hu; subst this
   have bl:(Jm=none∧l=0)∨∃ k,Jm=some (.int k l):=by
    rcases CS hbl hlo aej with ⟨_,h,h'⟩ | h
    ·exact .inl ⟨h,h'⟩
    ·exact .inr h
   have bh:(Jo=none∧hh=(st.size:Int))∨∃ k,Jo=some (.int k hh):=by
    rcases CS hbh hhi aek with ⟨_,h,h'⟩ | h
    ·exact .inl ⟨h,h'⟩
    ·exact .inr h
   have fA:=uY hs
   have hb:=jS (P:=P) (w:=w) (b:=false) (len:=st.size) (cap:=st.size) bl bh h0 hlh hhd (ael _)
   exact ⟨_,by simp [aoC,aqw,aeG fA,hb],.raw _ rfl⟩
  ·cases h
 ·cases h
end
section
variable {C:Cx} {s:St} {a:Act} {w:World} {E:Env} {P:Program} {row:Nat→Option Row}
theorem ZH {x v:SV} {vc:Prop} {u:Value} (h:zC row x=some (vc,v)) (hu:Rel P w E row u x) (ρ:Operand→Value) (xo:Operand) (hx:ρ xo=u) (o:Oper) (ho:o.op = .nilCheck xo):
  (execOp ρ o).run P w = .ok (.value u) w∧Rel P w E row u v:=by
 have hv:v=x:=by unfold zC at h; split at h <;> first | (cases h; rfl) | (split at h <;> cases h; rfl) | cases h
 subst hv
 refine ⟨?_,hu⟩
 unfold zC at h
 unfold execOp
 simp only [ho,hx]
 split at h <;> first | (cases h; done) | skip
 ·obtain ⟨b,base,rfl,_⟩:=hu; rfl
 ·simp only [Rel] at hu; subst hu; rfl
 ·split at h <;> cases h
  rename_i hs
  obtain ⟨r,hr⟩:=akP.1 hs
  obtain ⟨b,cap,_,rfl⟩:=hu r hr; rfl
 ·obtain ⟨f,first,caps,rfl,_⟩:=hu; rfl
 ·simp only [Rel] at hu; subst hu; rfl
 ·have:=aK.aJ hu; subst this; rfl
 ·cases hu; rfl
theorem Tn:∀ {l:List SV} {ts:List Nat} {vs:List Value},caps l=some ts→vs.length=l.length→(∀ i,i<l.length→Rel P w E row (vs.getD i undef) (l.getD i .dead)) →
  vs=ts.map fun t=>.pointer (some ⟨E.vb t,0,none⟩)
 | [],ts,vs,h,hl,_=>by simp only [caps,acX] at h; subst h; simpa using hl
 | x::l,ts,[],h,hl,_=>by simp at hl
 | x::l,ts,v::vs,h,hl,hr=>by
  unfold caps at h
  split at h
  ·rename_i he; cases he
  ·rename_i t l' he
   cases he
   cases h':caps l with
   | none=>simp [h'] at h
   | some r=>
    simp [h'] at h; subst h
    have h0:=hr 0 (by simp)
    simp only [am6,Rel] at h0
    rw [ab9,← h0,← Tn h' (by simpa using hl) (fun i hi=>by simpa using hr (i+1) (by simpa using hi))]
  ·cases h
def OY (w:World) (G:Pub) (vs:List Value) (ds:List PD):Prop:=vs.length=ds.length∧∀ j,j<ds.length→Rd w G (vs.getD j undef) (ds.getD j (.aj []))
theorem aK.cells {G:Pub} {v:Value} {d:PD} (h:aK w G v d):OY w G v.cells.toList d.cells:=by
 cases d with
 | aj ds=>
  obtain ⟨cs,rfl,hs,hr⟩:=h
  refine ⟨by simpa [aq9,PD.cells] using hs,fun j hj=>?_⟩
  simp only [PD.cells] at hj
  have:=hr j hj
  simpa [aq9,PD.cells,ab5,ab2] using this
 | raw u=>
  have hv:v.cells = #[v]:=by have:=Rd.oneCell h; cases v <;> simp_all [aq9,ak6]
  rw [hv]
  refine ⟨rfl,fun j hj=>?_⟩
  have hj0:j<1:=hj
  obtain rfl:j=0:=by omega
  exact h
 | list sz ds=>
  have hv:v.cells = #[v]:=by have:=Rd.oneCell h; cases v <;> simp_all [aq9,ak6]
  rw [hv]
  refine ⟨rfl,fun j hj=>?_⟩
  have hj0:j<1:=hj
  obtain rfl:j=0:=by omega
  exact h
 | clo _ _=>
  have hv:v.cells = #[v]:=by have:=Rd.oneCell h; cases v <;> simp_all [aq9,ak6]
  rw [hv]
  refine ⟨rfl,fun j hj=>?_⟩
  have hj0:j<1:=hj
  obtain rfl:j=0:=by omega
  exact h
 | mp _ _=>
  have hv:v.cells = #[v]:=by have:=Rd.oneCell h; cases v <;> simp_all [aq9,ak6]
  rw [hv]
  refine ⟨rfl,fun j hj=>?_⟩
  have hj0:j<1:=hj
  obtain rfl:j=0:=by omega
  exact h
theorem OY.splice {G:Pub} {vs us:List Value} {ds es:List PD} {off:Nat} (h:OY w G vs ds) (k:OY w G us es) (hle:off+es.length≤ds.length):
  OY w G (vs.take off++us++vs.drop (off+us.length)) (ds.take off++es++ds.drop (off+es.length)):=by
 obtain ⟨h1,h2⟩:=h
 obtain ⟨k1,k2⟩:=k
 refine ⟨by simp; omega,fun j hj=>?_⟩
 have hv:(vs.take off).length=off:=by simp; omega
 have hd:(ds.take off).length=off:=by simp; omega
 simp only [adb,aoH,hd] at hj
 simp only [ab2,afk] at *
 by_cases c1:j<off
 ·rw [aeD (by omega),aeD (by omega),anE,anE,acA c1,acA c1]
  exact h2 j (by omega)
 ·have e1:(vs.take off++(us++vs.drop (off+us.length)))[j]? = (us++vs.drop (off+us.length))[j - off]?:=by rw [aeS (by omega),hv]
  have e2:(ds.take off++(es++ds.drop (off+es.length)))[j]? = (es++ds.drop (off+es.length))[j - off]?:=by rw [aeS (by omega),hd]
  rw [e1,e2]
  by_cases c2:j - off<es.length
  ·rw [aeD (by omega),aeD (by omega)]
   exact k2 _ c2
  ·have e3:(us++vs.drop (off+us.length))[j - off]? = vs[j]?:=by rw [aeS (by omega),aqp]; congr 1; omega
   have e4:(es++ds.drop (off+es.length))[j - off]? = ds[j]?:=by rw [aeS (by omega),aqp]; congr 1; omega
   rw [e3,e4]
   exact h2 j (by omega)
theorem GZ (us:List Value):∀ (cells:Array Value) (off:Nat),off+us.length≤cells.size →
  ((us.zipIdx).foldl (fun cs (p:Value × Nat)=>cs.setIfInBounds (off+p.2) p.1) cells).toList=cells.toList.take off++us++cells.toList.drop (off+us.length):=by
 suffices H:∀ (us:List Value) (k:Nat) (cells:Array Value) (off:Nat),off+k+us.length≤cells.size →
   ((us.zipIdx k).foldl (fun cs (p:Value × Nat)=>cs.setIfInBounds (off+p.2) p.1) cells).toList=cells.toList.take (off+k)++us++cells.toList.drop (off+k+us.length) by
  intro cells off h
  simpa using H us 0 cells off (by simpa using h)
 intro us
 induction us with
 | nil=>intro k cells off _; simp
 | cons u us ih=>
  intro k cells off h
  simp only [List.length_cons] at h
  simp only [List.zipIdx_cons,List.foldl_cons]
  rw [ih (k+1) _ off (by simp; omega)]
  simp only [apP,List.length_cons]
  have h1:off+k<cells.toList.length:=by simp; omega
  rw [show off+(k+1)=(off+k)+1 from by omega,List.take_set,List.drop_set,acA (by omega),ab3 h1]
  rw [ao6 _ _ (by simp; omega)]
  have h2:off+k - (cells.toList.take (off+k)).length=0:=by simp; omega
  rw [h2]
  simp [anT,aro,Nat.add_left_comm]
theorem Tq {t:TypeId} {fs:Array Field} (fA:P.underlying t=some (.struct fs)) {places:Array (Nat × Nat)} (hpl:∀ i off ft,dI P t i=some (off,ft)→aP P ft≠0→places[i]? = some (off,aP P ft)) {G:Pub}:
  ∀ (ps:List (Nat × PD)) (us:List (Nat × Value)) (zs:List PD) (cs:Array Value) {vc:Prop} {r:List PD},zD P t zs ps=some (vc,r)→vc→OY w G cs.toList zs →
   us.length=ps.length→(∀ i,i<ps.length→(us.getD i (0,undef)).1=(ps.getD i (0,.aj [])).1∧aK w G (us.getD i (0,undef)).2 (ps.getD i (0,.aj [])).2) →
   ∃ cells,Instr.fill (places[·]?) cs us=some cells∧OY w G cells.toList r
 | [],us,zs,cs,vc,r,h,_,hz,hl,_=>by
  simp only [zD,acX,aoo] at h
  obtain ⟨_,rfl⟩:=h
  have:us=[]:=aps (by simpa using hl)
  subst this
  exact ⟨cs,rfl,hz⟩
 | (i,d)::ps,[],zs,cs,vc,r,h,_,hz,hl,_=>by simp at hl
 | (i,d)::ps,(i',u)::us,zs,cs,vc,r,h,aY,hz,hl,hr=>by
  have h0:=hr 0 (by simp)
  simp only [am6] at h0
  obtain ⟨rfl,hu⟩:=h0
  simp only [zD] at h
  split at h
  ·rename_i off ft hf
   split at h
   ·rename_i p r' hrec
    cases h
    obtain ⟨hz0,hw,hle,hp⟩:=aY
    have hc:=aK.cells hu
    have hcl:u.cells.toList.length=d.width:=by rw [hc.1,PD.bV]
    have hcs:cs.size=zs.length:=by have:=hz.1; simpa using this
    have hus:u.cells.size=d.width:=by simpa using hcl
    simp only [Instr.fill,hpl i' off ft hf hz0]
    have hcond:¬ ((decide (u.cells.size≠aP P ft) || decide (off+u.cells.size > cs.size))=true):=by
     simp; omega
    rw [acg hcond]
    have hsp:=GZ u.cells.toList cs off (by simp; omega)
    have hfold:(u.cells.zipIdx.foldl (fun cs (p:Value × Nat)=>cs.setIfInBounds (off+p.2) p.1) cs)=((u.cells.toList.zipIdx).foldl (fun cs (p:Value × Nat)=>cs.setIfInBounds (off+p.2) p.1) cs):=by
     rw [← Array.foldl_toList]; simp
    refine Tq fA hpl ps us _ _ hrec hp ?_ (by simpa using hl) (fun j hj=>by simpa using hr (j+1) (by simpa using hj))
    have:=hz.splice hc (off:=off) (by rw [PD.bV]; exact hle)
    rw [PD.bV] at this
    rw [hfold,hsp]
    exact this
   ·cases h
  ·cases h
theorem MG (ρ':Operand→Value) (ρ:Operand→SV):∀ {l:List (Nat × Operand)} {ps:List (Nat × PD)},pF ρ l=some ps→(∀ p∈l,Rel P w E row (ρ' p.2) (ρ p.2)) →
  (l.map fun p=>(p.1,ρ' p.2)).length=ps.length∧∀ i,i<ps.length→((l.map fun p=>(p.1,ρ' p.2)).getD i (0,undef)).1=(ps.getD i (0,.aj [])).1∧aK w E.G ((l.map fun p=>(p.1,ρ' p.2)).getD i (0,undef)).2 (ps.getD i (0,.aj [])).2
 | [],ps,h,_=>by simp only [pF,acX] at h; subst h; simp
 | (i,x)::l,ps,h,hr=>by
  simp only [pF] at h
  split at h
  ·rename_i d r hx hl
   cases h
   obtain ⟨h1,h2⟩:=MG ρ' ρ hl (fun p hp=>hr p (adg _ hp))
   have h0:=hr (i,x) (aeu ..)
   simp only [hx] at h0
   refine ⟨by simpa using h1,fun j hj=>?_⟩
   cases j with
   | zero=>exact ⟨rfl,h0⟩
   | succ j=>simpa using h2 j (by simpa using hj)
  ·cases h
end
end Go.au
end
