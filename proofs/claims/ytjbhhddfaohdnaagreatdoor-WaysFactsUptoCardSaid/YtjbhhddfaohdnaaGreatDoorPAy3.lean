/- A part of the proof. -/
import Derived.Test.YtjbhhddfaohdnaaGreatDoorPAy
import Derived.Deep.SlicePairs
set_option linter.all false
set_option linter.deprecated false
open Go renaming run_underlying→af9
open Go.Instr renaming field→ayz,fieldAt→auN,sliceBound→ayI,sliceBounds→atf,sliceAt→aqY,slice→atd
open Go.Value renaming cells→atQ,oneCell'→anj
section
namespace Go.au
open Go.ChangeShapes Go.WideShapes
def Pub.heap (w:World):Pub:=fun b _=>b<w.heap.size
section
variable {H:Type} {enc:TypeId × Value→H} {P:Program} {w:World}
def Opens {α:Type} (enc:TypeId × Value→H) (P:Program) (w:World) (t:TypeId) (sz:Nat) (e:α→PD):Prop:=
 (∀ a,(e a).width=sz)∧∀ fuel cs x,DataW.trod enc P w 0 (fun _=>true) true fuel t cs=some x→∃ a:α,cs.length=sz∧∀ j,j<sz→Rd w (Pub.heap w) (cs.getD j undef) ((e a).cell j)
theorem Yq {t:TypeId} {k:IntKind} (ht:P.underlying t=some (.int k)):Opens enc P w t 1 (fun n:Int=>.raw (.int k n)):=by
 refine ⟨fun _=>rfl,fun fuel cs x h=>?_⟩
 cases fuel with
 | zero=>simp [DataW.trod] at h
 | succ m=>
  unfold DataW.trod at h
  rw [ht] at h
  split at h <;> simp_all
  exact ⟨_,.raw _ rfl⟩
end
end Go.au
end
section
namespace Go.au
section
variable {C:Cx} {s:St} {a:Act} {w:World} {E:Env} {P:Program} {row:Nat→Option Row}
theorem aN.Yr {G:Pub} {v:Value} {d:PD} (h:aN w G v d) (ht:d.iI=true):∃ cs:Array Value,v = .agg cs∧cs.size=d.width∧∀ j,j<d.width→Rd w G (cs.getD j undef) (d.cell j):=by
 cases d with
 | ak ds=>exact h
 | raw _=>simp [PD.iI] at ht
 | list _ _=>simp [PD.iI] at ht
 | clo _ _=>simp [PD.iI] at ht
 | mp _ _=>simp [PD.iI] at ht
theorem Qr {t:TypeId} {cs:Array Value} {off:Nat} {G:Pub} {d:PD} (hk:aW P t=true) (hs:cs.size=d.width) (hr:∀ j,j<d.width→Rd w G (cs.getD j undef) (d.cell j)):
  (dP P t=false→off<d.width→∃ u,(part t cs off).run P w = .ok u w∧aN w G u (d.cell off)) ∧
  (dP P t=true→aO P t≠0→off+aO P t≤d.width→∃ u,(part t cs off).run P w = .ok u w∧aN w G u (.ak ((d.cells.drop off).take (aO P t)))):=by
 constructor
 ·intro ha hlt
  have hc:off<cs.size:=by omega
  refine ⟨cs[off],by simp [part,zh hk,ha,hc],?_⟩
  have:=hr off hlt
  simp [hc] at this
  exact this.CJ
 ·intro ha hz hle
  refine ⟨.agg (cs.extract off (off+aO P t)),by simp [part,zh hk,ha,jE hz],_,rfl,by rw [nN d off _ hle]; simp; omega,fun j hj=>?_⟩
  rw [nN d off _ hle] at hj
  rw [uP d off _ j hj hle]
  have h1:j<(cs.extract off (off+aO P t)).size:=by simp; omega
  have h2:(cs.extract off (off+aO P t)).getD j undef=cs.getD (off+j) undef:=by
   have h3:off+j<cs.size:=by omega
   simp only [adr,Array.getElem?_extract]
   rw [adA (by omega)]
  rw [h2]; exact hr (off+j) (by omega)
theorem V7 {t:TypeId} {f:Nat} {x v:SV} {vc:Prop} {u:Value} (h:wu P t f x=some (vc,v)) (bg:vc) (hu:Rel P w E row u x):
  ∃ u',(ayz t u f).run P w = .ok u' w∧Rel P w E row u' v:=by
 cases x with
 | pd d=>
  simp only [wu] at h
  split at h
  ·rename_i off ft hf
   obtain ⟨fs,fd,fJ,hfd,rfl,rfl⟩:=Jh hf
   split at h <;> cases h
   ·rename_i ha
    obtain ⟨hk,ht,hle,hz⟩:=bg
    obtain ⟨cs,rfl,hs,hr⟩:=aN.Yr hu ht
    obtain ⟨u',h1,h2⟩:=(Qr (P:=P) (off:=fd.offset) hk hs hr).2 ha hz hle
    exact ⟨u',by simp [ayz,af9 fJ,hfd,asAgg,h1],h2⟩
   ·rename_i ha
    obtain ⟨hk,ht,hlt⟩:=bg
    obtain ⟨cs,rfl,hs,hr⟩:=aN.Yr hu ht
    obtain ⟨u',h1,h2⟩:=(Qr (P:=P) (off:=fd.offset) hk hs hr).1 (by simpa using ha) hlt
    exact ⟨u',by simp [ayz,af9 fJ,hfd,asAgg,h1],h2⟩
  ·cases h
 | _=>simp [wu] at h
theorem MK {t:TypeId} {f:Nat} {x v:SV} {vc:Prop} {u:Value} (h:ny P row t f x=some (vc,v)) (bg:vc) (hu:Rel P w E row u x):
  ∃ u',(auN t u f).run P w = .ok u' w∧Rel P w E row u' v:=by
 unfold ny at h
 split at h
 ·rename_i off ft hf
  obtain ⟨fs,fd,fJ,hfd,rfl,rfl⟩:=Jh hf
  have core:∀ b o,aO P fd.type≠0→(auN t (.pointer (some ⟨b,o,none⟩)) f).run P w = .ok (.pointer (some ⟨b,o+fd.offset,none⟩)) w:=by
   intro b o hz
   simp [auN,af9 fJ,hfd,Instr.sureAddr,fieldPlace,jE hz,hz,addr_add]
  cases x with
  | ref d o=>
   cases h
   obtain ⟨b,base,rfl,hr⟩:=hu
   exact ⟨_,core b (base+o) bg,b,base,by simp [aqt],hr⟩
  | aG v0 o=>
   cases h
   simp only [Rel] at hu; subst hu
   exact ⟨_,core _ o bg,rfl⟩
  | iJ id i o=>
   simp only at h
   split at h <;> cases h
   rename_i hs
   obtain ⟨r,hr⟩:=aho.1 hs
   obtain ⟨b,cap,hb,rfl⟩:=hu r hr
   refine ⟨_,core b _ bg,fun r' hr'=>?_⟩
   rw [hr] at hr'; cases hr'
   exact ⟨b,cap,hb,by simp [aqt]⟩
  | _=>cases h
 ·cases h
theorem aa3 {t ty:TypeId} {x v:SV} {vc:Prop} {u:Value} (h:Aq P row t x=some (vc,v)) (bg:vc) (hu:Rel P w E row u x) (hnil:∀ id r,row id=some r→E.rb id=none→r.ds=[]):
  ∃ u',(Builtin.len_ #[t] ty #[u]).run P w = .ok u' w∧Rel P w E row u' v:=by
 have core:∀ o n c,(fA P t).isSome=true→(Builtin.len_ #[t] ty #[.slice o n c]).run P w = .ok (.int .i64 n) w:=by
  intro o n c hs
  cases he:fA P t with
  | none=>simp [he] at hs
  | some e=>simp [Builtin.len_,af9 (iE he),goInt]
 unfold Aq at h
 split at h
 ·rename_i sz ds
  cases h
  rcases Rd.mG hu with ⟨p,rfl,rfl⟩ | ⟨b,off,cap,rfl,_⟩
  ·exact ⟨_,core _ _ _ bg,.raw _ rfl⟩
  ·exact ⟨_,core _ _ _ bg,.raw _ rfl⟩
 ·cases h
  have:=aN.aK hu; subst this
  exact ⟨_,core _ _ _ bg,.raw _ rfl⟩
 ·cases h
  have:=aN.aK hu; subst this
  exact ⟨_,by simp [Builtin.len_,af9 (wo bg),goInt],.raw _ rfl⟩
 ·split at h
  ·rename_i id r hr
   cases h
   rcases hu r hr with ⟨h1,rfl⟩ | ⟨b,cap,h1,rfl⟩
   ·have:=hnil _ _ hr h1
    rw [this]
    exact ⟨_,core _ _ _ bg,.raw _ rfl⟩
   ·exact ⟨_,core _ _ _ bg,.raw _ rfl⟩
  ·cases h
 ·split at h
  ·rename_i id k _ r hr
   cases h
   obtain ⟨_,b,cap,_,rfl⟩:=hu r hr
   exact ⟨_,core _ _ _ bg,.raw _ rfl⟩
  ·cases h
 ·cases h
theorem Rel.bool {b:Bool} {u:Value} (h:Rel P w E row u (.pd (.raw (.bool b)))):u = .bool b:=aN.aK h
theorem Yt {x y z v:SV} {vc:Prop} {ux uy uz:Value} (h:CQ x y z=some (vc,v)) (bg:vc) (hx:Rel P w E row ux x) (hy:Rel P w E row uy y) (hz:Rel P w E row uz z):
  ∃ c,ux = .bool c∧Rel P w E row (if c then uy else uz) v:=by
 unfold CQ at h
 split at h <;> first | cases h | skip
 ·rename_i c x y
  have:=Rel.bool hx; subst this
  refine ⟨c,rfl,?_⟩
  have h1:=Rel.bool hy; have h2:=Rel.bool hz; subst h1; subst h2
  cases c <;> exact .raw _ rfl
 ·rename_i c c' x y
  have:=Rel.bool hx; subst this
  refine ⟨c,rfl,?_⟩
  have h2:=Rel.bool hz; subst h2
  cases c
  ·exact .raw _ rfl
  ·have h1:=Rel.bool (hy (bg rfl)); subst h1; exact .raw _ rfl
 ·rename_i c x c' y
  have:=Rel.bool hx; subst this
  refine ⟨c,rfl,?_⟩
  have h1:=Rel.bool hy; subst h1
  cases c
  ·have h2:=Rel.bool (hz (bg rfl)); subst h2; exact .raw _ rfl
  ·exact .raw _ rfl
 ·have:=Rel.bool hx; subst this
  exact ⟨true,rfl,by simpa using hy⟩
 ·have:=Rel.bool hx; subst this
  exact ⟨false,rfl,by simpa using hz⟩
theorem DU {d:Int} {x:Option SV} {i:Int} (h:bound d x=some i) {u:Option Value} (hu:∀ y,x=some y→∃ v,u=some v∧Rel P w E row v y) (hn:x=none→u=none):
  (x=none∧u=none∧i=d)∨∃ k,u=some (.int k i):=by
 cases x with
 | none=>simp only [bound,ad2] at h; exact .inl ⟨rfl,hn rfl,h.symm⟩
 | some y=>
  obtain ⟨v,rfl,hv⟩:=hu y rfl
  cases y with
  | pd q=>cases q with
   | raw r=>
    have:=aN.aK hv; subst this
    cases v <;> simp [bound] at h
    subst h; exact .inr ⟨_,rfl⟩
   | _=>simp [bound] at h
  | _=>simp [bound] at h
theorem run_sliceBound {k:IntKind} {i:Int} {y:Nat} {c:BoundsCode} (h0:0≤i) (h1:i≤(y:Int)):(ayI (.int k i) y c).run P w = .ok i.toNat w:=by
 simp [ayI,wV,h0,h1]
theorem kN {b:Bool} {len cap:Nat} {lo hi:Option Value} {l h:Int} (hlo:(lo=none∧l=0)∨∃ k,lo=some (.int k l)) (hhi:(hi=none∧h=len)∨∃ k,hi=some (.int k h))
  (h0:0≤l) (h1:l≤h) (h2:h≤len) (h3:len≤cap):(atf b len cap lo hi none).run P w = .ok (l.toNat,h.toNat,cap) w:=by
 have a1:h≤(cap:Int):=by omega
 have a2:l≤((h.toNat:Nat):Int):=by omega
 have a3:0≤h:=by omega
 rcases hlo with ⟨rfl,rfl⟩ | ⟨k,rfl⟩ <;> rcases hhi with ⟨rfl,rfl⟩ | ⟨k',rfl⟩
 ·simp [atf]
 ·simp [atf,run_sliceBound a3 a1]
 ·have:=run_sliceBound (P:=P) (w:=w) (k:=k) (i:=l) (y:=len) (c:=.sliceB) h0 h1
  simp [atf,this]
 ·simp [atf,run_sliceBound a3 a1,run_sliceBound h0 a2]
theorem V8 {t:TypeId} {x v:SV} {lo hi:Option SV} {vc:Prop} {u:Value} {J9 Ko:Option Value} (h:yV P t x lo hi=some (vc,v)) (bg:vc) (hu:Rel P w E row u x)
  (hlo:∀ y,lo=some y→∃ v,J9=some v∧Rel P w E row v y) (afO:lo=none→J9=none) (hhi:∀ y,hi=some y→∃ v,Ko=some v∧Rel P w E row v y) (afP:hi=none→Ko=none):
  ∃ u',(aqY t u J9 Ko none).run P w = .ok u' w∧Rel P w E row u' v:=by
 unfold yV at h
 split at h
 ·rename_i sz ds
  split at h
  ·rename_i e l hh hs hbl hbh
   cases h
   obtain ⟨h1,hz,h0,hlh,hhd⟩:=bg
   have bl:(J9=none∧l=0)∨∃ k,J9=some (.int k l):=by
    rcases DU hbl hlo afO with ⟨_,h,h'⟩ | h
    ·exact .inl ⟨h,h'⟩
    ·exact .inr h
   have bh:(Ko=none∧hh=(ds.length:Int))∨∃ k,Ko=some (.int k hh):=by
    rcases DU hbh hhi afP with ⟨_,h,h'⟩ | h
    ·exact .inl ⟨h,h'⟩
    ·exact .inr h
   have fJ:=iE hs
   have hsz:(sizeOf e).run P w = .ok sz w:=by rw [← h1]; exact jE (by omega)
   have hl:((ds.take hh.toNat).drop l.toNat).length=hh.toNat - l.toNat:=by simp; omega
   rcases Rd.mG hu with ⟨p,rfl,rfl⟩ | ⟨b,off,cap,rfl,hcap,hmax,hw,hr⟩
   ·simp at hhd
    have e1:l=0:=by omega
    have e2:hh=0:=by omega
    subst e1; subst e2
    refine ⟨.slice p 0 0,?_,by simpa [Rel,aN] using Rd.emp (w:=w) (G:=E.G) sz p⟩
    have hb:=kN (P:=P) (w:=w) (b:=true) (len:=0) (cap:=0) (lo:=J9) (hi:=Ko) (l:=0) (h:=0) bl (by simpa using bh) (by omega) (by omega) (by simp) (aew _)
    cases p <;> simp [aqY,atd,af9 fJ,hb,hsz]
   ·have hb:=kN (P:=P) (w:=w) (b:=true) (len:=ds.length) (cap:=cap) bl bh h0 hlh hhd hcap
    have hget:∀ i,i<hh.toNat - l.toNat→((ds.take hh.toNat).drop l.toNat).getD i (.ak [])=ds.getD (l.toNat+i) (.ak []):=by
     intro i hi
     simp only [aax,as8,ap3]
     rw [adA (by omega)]
    by_cases hc:cap=l.toNat
    ·refine ⟨.slice (some ⟨b,off,none⟩) (hh.toNat - l.toNat) (cap - l.toNat),by simp only [aqY,atd,Sem.run_bind,af9 fJ,Result.andThen_ok,hb,hsz,Sem.run_pure,adA hc],?_⟩
     have h0:hh.toNat - l.toNat=0:=by omega
     have hnil:(ds.take hh.toNat).drop l.toNat=[]:=arW (by omega)
     rw [hnil]
     have:=Rd.pO (w:=w) (G:=E.G) (sz:=sz) (ds:=[]) (b:=b) (off:=off) (cap:=cap - l.toNat) (by simp) (by omega) (by simp) (by simp)
     simpa [h0,Rel,aN] using this
    ·refine ⟨.slice (some ⟨b,off+l.toNat * sz,none⟩) (hh.toNat - l.toNat) (cap - l.toNat),by simp [aqY,atd,af9 fJ,hb,hsz,hc,addr_add],?_⟩
     rw [← hl]
     refine Rd.pO (by omega) (by omega) (fun i hi=>?_) (fun i hi=>?_)
     ·rw [hl] at hi; rw [hget i hi]; exact hw _ (by omega)
     ·rw [hl] at hi; rw [hget i hi]
      have:=hr (l.toNat+i) (by omega)
      rwa [aqd,← aqt] at this
  ·cases h
 ·rename_i st
  split at h
  ·rename_i l hh hbl hbh
   cases h
   obtain ⟨hs,h0,hlh,hhd⟩:=bg
   have:=aN.aK hu; subst this
   have bl:(J9=none∧l=0)∨∃ k,J9=some (.int k l):=by
    rcases DU hbl hlo afO with ⟨_,h,h'⟩ | h
    ·exact .inl ⟨h,h'⟩
    ·exact .inr h
   have bh:(Ko=none∧hh=(st.size:Int))∨∃ k,Ko=some (.int k hh):=by
    rcases DU hbh hhi afP with ⟨_,h,h'⟩ | h
    ·exact .inl ⟨h,h'⟩
    ·exact .inr h
   have fJ:=wo hs
   have hb:=kN (P:=P) (w:=w) (b:=false) (len:=st.size) (cap:=st.size) bl bh h0 hlh hhd (aew _)
   exact ⟨_,by simp [aqY,atd,af9 fJ,hb],.raw _ rfl⟩
  ·cases h
 ·cases h
end
section
variable {C:Cx} {s:St} {a:Act} {w:World} {E:Env} {P:Program} {row:Nat→Option Row}
theorem aa4 {x v:SV} {vc:Prop} {u:Value} (h:Ar row x=some (vc,v)) (hu:Rel P w E row u x) (ρ:Operand→Value) (xo:Operand) (hx:ρ xo=u) (o:Oper) (ho:o.op = .nilCheck xo):
  (execOp ρ o).run P w = .ok (.value u) w∧Rel P w E row u v:=by
 have hv:v=x:=by unfold Ar at h; split at h <;> first | (cases h; rfl) | (split at h <;> cases h; rfl) | cases h
 subst hv
 refine ⟨?_,hu⟩
 unfold Ar at h
 unfold execOp
 simp only [ho,hx]
 split at h <;> first | (cases h; done) | skip
 ·obtain ⟨b,base,rfl,_⟩:=hu; rfl
 ·simp only [Rel] at hu; subst hu; rfl
 ·split at h <;> cases h
  rename_i hs
  obtain ⟨r,hr⟩:=aho.1 hs
  obtain ⟨b,cap,_,rfl⟩:=hu r hr; rfl
 ·obtain ⟨f,first,caps,rfl,_⟩:=hu; rfl
 ·simp only [Rel] at hu; subst hu; rfl
 ·have:=aN.aK hu; subst this; rfl
 ·cases hu; rfl
theorem U4:∀ {l:List SV} {ts:List Nat} {vs:List Value},caps l=some ts→vs.length=l.length→(∀ i,i<l.length→Rel P w E row (vs.getD i undef) (l.getD i .dead)) →
  vs=ts.map fun t=>.pointer (some ⟨E.vb t,0,none⟩)
 | [],ts,vs,h,hl,_=>by simp only [caps,ad2] at h; subst h; simpa using hl
 | x::l,ts,[],h,hl,_=>by simp at hl
 | x::l,ts,v::vs,h,hl,hr=>by
  unfold caps at h
  split at h
  ·rename_i he; cases he
  ·rename_i t l' he
   cases he
   cases h':caps l with
   | none=>simp [h'] at h
   | some r=>
    simp [h'] at h; subst h
    have h0:=hr 0 (by simp)
    simp only [apu,Rel] at h0
    rw [ads,← h0,← U4 h' (by simpa using hl) (fun i hi=>by simpa using hr (i+1) (by simpa using hi))]
  ·cases h
def Qs (w:World) (G:Pub) (vs:List Value) (ds:List PD):Prop:=vs.length=ds.length∧∀ j,j<ds.length→Rd w G (vs.getD j undef) (ds.getD j (.ak []))
theorem aN.cells {G:Pub} {v:Value} {d:PD} (h:aN w G v d):Qs w G v.cells.toList d.cells:=by
 cases d with
 | ak ds=>
  obtain ⟨cs,rfl,hs,hr⟩:=h
  refine ⟨by simpa [atQ,PD.cells] using hs,fun j hj=>?_⟩
  simp only [PD.cells] at hj
  have:=hr j hj
  simpa [atQ,PD.cells,adr,aax] using this
 | raw u=>
  have hv:v.cells = #[v]:=by have:=Rd.oneCell h; cases v <;> simp_all [atQ,anj]
  rw [hv]
  refine ⟨rfl,fun j hj=>?_⟩
  have hj0:j<1:=hj
  obtain rfl:j=0:=by omega
  exact h
 | list sz ds=>
  have hv:v.cells = #[v]:=by have:=Rd.oneCell h; cases v <;> simp_all [atQ,anj]
  rw [hv]
  refine ⟨rfl,fun j hj=>?_⟩
  have hj0:j<1:=hj
  obtain rfl:j=0:=by omega
  exact h
 | clo _ _=>
  have hv:v.cells = #[v]:=by have:=Rd.oneCell h; cases v <;> simp_all [atQ,anj]
  rw [hv]
  refine ⟨rfl,fun j hj=>?_⟩
  have hj0:j<1:=hj
  obtain rfl:j=0:=by omega
  exact h
 | mp _ _=>
  have hv:v.cells = #[v]:=by have:=Rd.oneCell h; cases v <;> simp_all [atQ,anj]
  rw [hv]
  refine ⟨rfl,fun j hj=>?_⟩
  have hj0:j<1:=hj
  obtain rfl:j=0:=by omega
  exact h
theorem Qs.splice {G:Pub} {vs us:List Value} {ds es:List PD} {off:Nat} (h:Qs w G vs ds) (k:Qs w G us es) (hle:off+es.length≤ds.length):
  Qs w G (vs.take off++us++vs.drop (off+us.length)) (ds.take off++es++ds.drop (off+es.length)):=by
 obtain ⟨h1,h2⟩:=h
 obtain ⟨k1,k2⟩:=k
 refine ⟨by simp; omega,fun j hj=>?_⟩
 have hv:(vs.take off).length=off:=by simp; omega
 have hd:(ds.take off).length=off:=by simp; omega
 simp only [aec,aqD,hd] at hj
 simp only [aax,ai2] at *
 by_cases c1:j<off
 ·rw [af8 (by omega),af8 (by omega),ap3,ap3,adA c1,adA c1]
  exact h2 j (by omega)
 ·have e1:(vs.take off++(us++vs.drop (off+us.length)))[j]? = (us++vs.drop (off+us.length))[j - off]?:=by rw [ags (by omega),hv]
  have e2:(ds.take off++(es++ds.drop (off+es.length)))[j]? = (es++ds.drop (off+es.length))[j - off]?:=by rw [ags (by omega),hd]
  rw [e1,e2]
  by_cases c2:j - off<es.length
  ·rw [af8 (by omega),af8 (by omega)]
   exact k2 _ c2
  ·have e3:(us++vs.drop (off+us.length))[j - off]? = vs[j]?:=by rw [ags (by omega),as8]; congr 1; omega
   have e4:(es++ds.drop (off+es.length))[j - off]? = ds[j]?:=by rw [ags (by omega),as8]; congr 1; omega
   rw [e3,e4]
   exact h2 j (by omega)
theorem IC (us:List Value):∀ (cells:Array Value) (off:Nat),off+us.length≤cells.size →
  ((us.zipIdx).foldl (fun cs (p:Value × Nat)=>cs.setIfInBounds (off+p.2) p.1) cells).toList=cells.toList.take off++us++cells.toList.drop (off+us.length):=by
 suffices H:∀ (us:List Value) (k:Nat) (cells:Array Value) (off:Nat),off+k+us.length≤cells.size →
   ((us.zipIdx k).foldl (fun cs (p:Value × Nat)=>cs.setIfInBounds (off+p.2) p.1) cells).toList=cells.toList.take (off+k)++us++cells.toList.drop (off+k+us.length) by
  intro cells off h
  simpa using H us 0 cells off (by simpa using h)
 intro us
 induction us with
 | nil=>intro k cells off _; simp
 | cons u us ih=>
  intro k cells off h
  simp only [List.length_cons] at h
  simp only [List.zipIdx_cons,List.foldl_cons]
  rw [ih (k+1) _ off (by simp; omega)]
  simp only [asr,List.length_cons]
  have h1:off+k<cells.toList.length:=by simp; omega
  rw [show off+(k+1)=(off+k)+1 from by omega,List.take_set,List.drop_set,adA (by omega),aaG h1]
  rw [arz _ _ (by simp; omega)]
  have h2:off+k - (cells.toList.take (off+k)).length=0:=by simp; omega
  rw [h2]
  simp [aqt,aua,Nat.add_left_comm]
theorem U5 {t:TypeId} {fs:Array Field} (fJ:P.underlying t=some (.struct fs)) {places:Array (Nat × Nat)} (hpl:∀ i off ft,dO P t i=some (off,ft)→aO P ft≠0→places[i]? = some (off,aO P ft)) {G:Pub}:
  ∀ (ps:List (Nat × PD)) (us:List (Nat × Value)) (zs:List PD) (cs:Array Value) {vc:Prop} {r:List PD},Au P t zs ps=some (vc,r)→vc→Qs w G cs.toList zs →
   us.length=ps.length→(∀ i,i<ps.length→(us.getD i (0,undef)).1=(ps.getD i (0,.ak [])).1∧aN w G (us.getD i (0,undef)).2 (ps.getD i (0,.ak [])).2) →
   ∃ cells,Instr.fill (places[·]?) cs us=some cells∧Qs w G cells.toList r
 | [],us,zs,cs,vc,r,h,_,hz,hl,_=>by
  simp only [Au,ad2,aqL] at h
  obtain ⟨_,rfl⟩:=h
  have:us=[]:=arW (by simpa using hl)
  subst this
  exact ⟨cs,rfl,hz⟩
 | (i,d)::ps,[],zs,cs,vc,r,h,_,hz,hl,_=>by simp at hl
 | (i,d)::ps,(i',u)::us,zs,cs,vc,r,h,bg,hz,hl,hr=>by
  have h0:=hr 0 (by simp)
  simp only [apu] at h0
  obtain ⟨rfl,hu⟩:=h0
  simp only [Au] at h
  split at h
  ·rename_i off ft hf
   split at h
   ·rename_i p r' hrec
    cases h
    obtain ⟨hz0,hw,hle,hp⟩:=bg
    have hc:=aN.cells hu
    have hcl:u.cells.toList.length=d.width:=by rw [hc.1,PD.dh]
    have hcs:cs.size=zs.length:=by have:=hz.1; simpa using this
    have hus:u.cells.size=d.width:=by simpa using hcl
    simp only [Instr.fill,hpl i' off ft hf hz0]
    have hcond:¬ ((decide (u.cells.size≠aO P ft) || decide (off+u.cells.size > cs.size))=true):=by
     simp; omega
    rw [adt hcond]
    have hsp:=IC u.cells.toList cs off (by simp; omega)
    have hfold:(u.cells.zipIdx.foldl (fun cs (p:Value × Nat)=>cs.setIfInBounds (off+p.2) p.1) cs)=((u.cells.toList.zipIdx).foldl (fun cs (p:Value × Nat)=>cs.setIfInBounds (off+p.2) p.1) cs):=by
     rw [← Array.foldl_toList]; simp
    refine U5 fJ hpl ps us _ _ hrec hp ?_ (by simpa using hl) (fun j hj=>by simpa using hr (j+1) (by simpa using hj))
    have:=hz.splice hc (off:=off) (by rw [PD.dh]; exact hle)
    rw [PD.dh] at this
    rw [hfold,hsp]
    exact this
   ·cases h
  ·cases h
theorem Oa (ρ':Operand→Value) (ρ:Operand→SV):∀ {l:List (Nat × Operand)} {ps:List (Nat × PD)},qw ρ l=some ps→(∀ p∈l,Rel P w E row (ρ' p.2) (ρ p.2)) →
  (l.map fun p=>(p.1,ρ' p.2)).length=ps.length∧∀ i,i<ps.length→((l.map fun p=>(p.1,ρ' p.2)).getD i (0,undef)).1=(ps.getD i (0,.ak [])).1∧aN w E.G ((l.map fun p=>(p.1,ρ' p.2)).getD i (0,undef)).2 (ps.getD i (0,.ak [])).2
 | [],ps,h,_=>by simp only [qw,ad2] at h; subst h; simp
 | (i,x)::l,ps,h,hr=>by
  simp only [qw] at h
  split at h
  ·rename_i d r hx hl
   cases h
   obtain ⟨h1,h2⟩:=Oa ρ' ρ hl (fun p hp=>hr p (aej _ hp))
   have h0:=hr (i,x) (aeC ..)
   simp only [hx] at h0
   refine ⟨by simpa using h1,fun j hj=>?_⟩
   cases j with
   | zero=>exact ⟨rfl,h0⟩
   | succ j=>simpa using h2 j (by simpa using hj)
  ·cases h
end
end Go.au
end
