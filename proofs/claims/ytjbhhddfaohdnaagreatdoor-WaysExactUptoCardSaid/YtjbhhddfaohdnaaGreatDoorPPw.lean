/- A part of the proof. -/
import Derived.Test.YtjbhhddfaohdnaaGreatDoorPGd
set_option linter.all false
set_option linter.deprecated false
open Array renaming replicate→aew
open Go.Region renaming binds→am3,ready→anX
open List renaming range→aeI,length_cons→aey,map→apO,getElem?_zip_eq_some→ato,replicate→akW,find?→awz
open Option renaming map_some→aiq,getD_some→aeN
section
namespace Go.au
def SV.ren (f:Nat→Nat):SV→SV
 | .aG t o=>.aG (f t) o
 | .own i=>.own (f i)
 | .iR i k o=>.iR (f i) k o
 | .view i k=>.view (f i) k
 | .clo g ts=>.clo g (ts.map f)
 | .gd c v=>.gd c (v.ren f)
 | .lC t v=>.lC t (v.ren f)
 | .box _=>.dead
 | v=>v
def SV.good (f inv:Nat→Nat):SV→Bool
 | .aG t _=>inv (f t) == t
 | .own i=>inv (f i) == i
 | .iR i _ _=>inv (f i) == i
 | .view i _=>inv (f i) == i
 | .clo _ ts=>ts.all fun t=>inv (f t) == t
 | .gd _ v=>v.good f inv
 | .lC _ v=>v.good f inv
 | _=>true
def Dc (f:Nat→Nat):List (Nat × SV)→List (Nat × SV)
 | []=>[]
 | (t,v)::l=>(t,v.ren f)::Dc f l
def Df (f:Nat→Nat):List (Nat × List SV)→List (Nat × List SV)
 | []=>[]
 | (t,c)::l=>(f t,c.map (SV.ren f))::Df f l
def Dh (f:Nat→Nat):List (Nat × Row)→List (Nat × Row)
 | []=>[]
 | (t,r)::l=>(f t,r)::Dh f l
def Di (f inv:Nat→Nat):List (Nat × SV)→Bool
 | []=>true
 | (_,v)::l=>v.good f inv&&Di f inv l
def rJ (f inv:Nat→Nat):List SV→Bool
 | []=>true
 | v::l=>v.good f inv&&rJ f inv l
def xC (f inv:Nat→Nat):List (Nat × List SV)→Bool
 | []=>true
 | (t,c)::l=>inv (f t) == t&&rJ f inv c&&xC f inv l
def xE (f inv:Nat→Nat):List (Nat × Row)→Bool
 | []=>true
 | (t,_)::l=>inv (f t) == t&&xE f inv l
theorem BL (f:Nat→Nat) (t:Nat):∀ l,lk t (Dc f l)=(lk t l).map (SV.ren f)
 | []=>rfl
 | (j,v)::l=>by simp only [Dc,lk]; split <;> simp [BL f t l]
theorem Lc (f inv:Nat→Nat) (j:Nat) (y:List SV):∀ l,xC f inv l=true→lk j (Df f l)=some y→∃ x,lk (inv j) l=some x∧y=x.map (SV.ren f)∧f (inv j)=j∧rJ f inv x=true
 | [],_,h=>by simp [Df,lk] at h
 | (t,c)::l,hg,h=>by
  simp only [xC,aeC,an0] at hg
  simp only [Df,lk] at h
  split at h
  ·rename_i e; cases h; subst e; rw [hg.1.1]; exact ⟨c,by simp [lk],rfl,rfl,hg.1.2⟩
  ·rename_i hne
   obtain ⟨x,h1,h2,h3,h4⟩:=Lc f inv j y l hg.2 h
   refine ⟨x,?_,h2,h3,h4⟩
   rw [lk,acg (fun e=>hne (by rw [e]; exact h3))]; exact h1
theorem Ld (f inv:Nat→Nat) (j:Nat) (y:Row):∀ l,xE f inv l=true→lk j (Dh f l)=some y→lk (inv j) l=some y∧f (inv j)=j
 | [],_,h=>by simp [Dh,lk] at h
 | (t,c)::l,hg,h=>by
  simp only [xE,aeC,an0] at hg
  simp only [Dh,lk] at h
  split at h
  ·rename_i e; cases h; subst e; rw [hg.1]; exact ⟨by simp [lk],rfl⟩
  ·rename_i hne
   obtain ⟨h1,h3⟩:=Ld f inv j y l hg.2 h
   exact ⟨by rw [lk,acg (fun e=>hne (by rw [e]; exact h3))]; exact h1,h3⟩
theorem EG {f inv:Nat→Nat}:∀ {l:List (Nat × SV)},Di f inv l=true→∀ t x,lk t l=some x→x.good f inv=true
 | [],_,_,_,h=>by simp [lk] at h
 | (j,v)::l,hg,t,x,h=>by
  simp only [Di,aeC] at hg
  simp only [lk] at h
  split at h
  ·cases h; exact hg.1
  ·exact EG hg.2 t x h
theorem ML {f inv:Nat→Nat}:∀ {l:List SV},rJ f inv l=true→∀ j,(l.getD j .dead).good f inv=true
 | [],_,j=>by simp [SV.good]
 | v::l,hg,0=>by simp only [rJ,aeC] at hg; simpa using hg.1
 | v::l,hg,j+1=>by simp only [rJ,aeC] at hg; simpa using ML hg.2 j
theorem AB {P:Program} {s:St}:∀ {rv:List ResultVar} {p:Prop × List PD},resD P s rv=some p→p.2.length=rv.length
 | [],p,h=>by simp only [resD,acX] at h; subst h; rfl
 | .tmp t::l,p,h=>by
  simp only [resD] at h
  split at h
  ·rename_i h2; simp only [acX] at h; subst h; have:=AB h2; simpa using this
  ·cases h
 | .cell t ty::l,p,h=>by
  simp only [resD] at h
  split at h
  ·rename_i h2; simp only [acX] at h; subst h; have:=AB h2; simpa using this
  ·cases h
section
variable {C:Cx} {s:St} {a:Act} {w w':World} {E:Env} {P:Program} {k:List KI} {all:Array Oper} {l:List Oper} {o:Oper}
theorem Rel.ren {f inv:Nat→Nat} {row row':Nat→Option Row} (hrow:∀ j r,row' j=some r→row (inv j)=some r) {v:Value} {x:SV} (hx:x.good f inv=true) (h:Rel P w E row v x):
  Rel P w { E with vb:=fun j=>E.vb (inv j),rb:=fun j=>E.rb (inv j) } row' v (x.ren f):=by
 induction x generalizing v with
 | aG t off=>simp only [SV.good,an0] at hx; simpa only [SV.ren,Rel,hx] using h
 | own i=>
  simp only [SV.good,an0] at hx
  intro r hr
  have:=h r (by rw [← hx]; exact hrow _ _ hr)
  simpa only [hx] using this
 | iR i k off=>
  simp only [SV.good,an0] at hx
  intro r hr
  have:=h r (by rw [← hx]; exact hrow _ _ hr)
  simpa only [hx] using this
 | view i k=>
  simp only [SV.good,an0] at hx
  intro r hr
  have:=h r (by rw [← hx]; exact hrow _ _ hr)
  simpa only [hx] using this
 | clo g ts=>
  simp only [SV.good,aeA,an0] at hx
  simp only [SV.ren,Rel,anY] at h ⊢
  rw [h]
  congr 2
  exact akZ fun t ht=>by simp [hx t ht]
 | gd c x ih=>exact fun hc=>ih hx (h hc)
 | lC t x ih=>obtain ⟨u,e,h⟩:=h; exact ⟨u,e,ih hx h⟩
 | box _=>trivial
 | dead=>trivial
 | pd d=>exact h
 | ref d off=>exact h
 | tpl ds=>exact h
 | fn F=>exact h
theorem Le {f:Nat→Nat} (x:SV) (cs:List Value):x.ren f≠.box cs:=by
 cases x <;> simp [SV.ren]
def oW (slots:List (Nat × SV)):List Nat→List (Nat × SV)
 | []=>[]
 | t::l=>if t<10000 then (t,(lk t slots).getD .dead)::oW slots l else oW slots l
def uD:List (Nat × SV)→List (Nat × SV)
 | []=>[]
 | (t,v)::l=>(t+10000,v)::uD l
def yL:List (Nat × SV)→List (Nat × SV)
 | []=>[]
 | (t,v)::l=>if t<10000 then (t,v)::yL l else yL l
def vV:List (Nat × SV)→List (Nat × SV)
 | []=>[]
 | (t,v)::l=>if t<10000 then vV l else (t - 10000,v)::vV l
def qY (t:Nat):Nat:=t+10000
def St.enter (s:St) (keep:List Nat) (n:Nat) (args:List SV):St:=
 ⟨n,slotsOf 0 (args.map (SV.ren qY)),Df qY s.vars,Dh qY s.rows,s.maps,Dc qY (oW s.slots keep++uD s.gs)⟩
def oZ (b t:Nat):Nat:=if 10000≤t then t - 10000 else t+b
def kQ (b j:Nat):Nat:=if b≤j∧j<b+10000 then j - b else j+10000
def qC (keep:List Nat):List (Nat × List SV)→List (Nat × List SV)
 | []=>[]
 | (t,c)::l=>if 10000≤t∨keep.contains t then (t,c)::qC keep l else qC keep l
def qE (keep:List Nat):List (Nat × Row)→List (Nat × Row)
 | []=>[]
 | (t,c)::l=>if 10000≤t∨keep.contains t then (t,c)::qE keep l else qE keep l
def St.leave (s:St) (b n:Nat) (kv kr:List Nat):St:=
 ⟨n,Dc (oZ b) (yL s.gs),Df (oZ b) (qC kv s.vars),Dh (oZ b) (qE kr s.rows),s.maps,Dc (oZ b) (vV s.gs)⟩
def St.vw (s:St) (b:Nat) (kv kr:List Nat):Bool:=
 Di (oZ b) (kQ b) s.gs&&xC (oZ b) (kQ b) (qC kv s.vars)&&xE (oZ b) (kQ b) (qE kr s.rows)
def Cont (C:Cx) (all:Array Oper) (l:List Oper) (k:List KI) (dst:Option Nat) (a:Act):Ending→World→Prop
 | .returned v,w=>wpList C.P all (fin C k) l (a.put dst v) w
 | .panicked ch,w=>C.post (.panic ch) a w
 | _,_=>False
def Cx.sub (C:Cx) (fn:Func) (all:Array Oper) (l:List Oper) (k:List KI) (dst:Option Nat) (a:Act):Cx:=
 { P:=C.P,w0:=C.w0,G0:=C.G0,post:=bodyPost C.P fn (Cont C all l k dst a),mu:=C.mu,dr:=C.dr,ghost:=fun t=>if t<10000 then a.tmps.getD t undef else C.ghost (t - 10000) }
theorem csP (C:Cx) (fn:Func) (all:Array Oper) (l:List Oper) (k:List KI) (dst:Option Nat) (a:Act):(C.sub fn all l k dst a).P=C.P:=rfl
theorem csV (C:Cx) (fn:Func) (all:Array Oper) (l:List Oper) (k:List KI) (dst:Option Nat) (a:Act) (t:Nat):(C.sub fn all l k dst a).vb0 t=none:=rfl
theorem csR (C:Cx) (fn:Func) (all:Array Oper) (l:List Oper) (k:List KI) (dst:Option Nat) (a:Act) (t:Nat):(C.sub fn all l k dst a).iP t=none:=rfl
theorem csW (C:Cx) (fn:Func) (all:Array Oper) (l:List Oper) (k:List KI) (dst:Option Nat) (a:Act):(C.sub fn all l k dst a).w0=C.w0:=rfl
theorem csM (C:Cx) (fn:Func) (all:Array Oper) (l:List Oper) (k:List KI) (dst:Option Nat) (a:Act):(C.sub fn all l k dst a).mu=C.mu:=rfl
theorem Ih (slots:List (Nat × SV)) (t:Nat):∀ keep x,lk t (oW slots keep)=some x→t<10000∧x=(lk t slots).getD .dead
 | [],x,h=>by simp [oW,lk] at h
 | j::l,x,h=>by
  simp only [oW] at h
  split at h
  ·simp only [lk] at h
   split at h
   ·rename_i e; cases h; subst e; exact ⟨by assumption,rfl⟩
   ·exact Ih slots t l x h
  ·exact Ih slots t l x h
theorem MN (t:Nat):∀ l x,lk t (uD l)=some x→10000≤t∧lk (t - 10000) l=some x
 | [],x,h=>by simp [uD,lk] at h
 | (j,y)::l,x,h=>by
  simp only [uD,lk] at h
  split at h
  ·rename_i e; cases h; subst e; exact ⟨by omega,by simp [lk]⟩
  ·rename_i hne
   obtain ⟨h1,h2⟩:=MN t l x h
   exact ⟨h1,by rw [lk,acg (by omega)]; exact h2⟩
theorem Lh (t:Nat):∀ l x,lk t (yL l)=some x→t<10000∧lk t l=some x
 | [],x,h=>by simp [yL,lk] at h
 | (j,y)::l,x,h=>by
  simp only [yL] at h
  split at h
  ·simp only [lk] at h
   split at h
   ·rename_i e; cases h; subst e; exact ⟨by assumption,by simp [lk]⟩
   ·obtain ⟨h1,h2⟩:=Lh t l x h; exact ⟨h1,by rw [lk,acg (by assumption)]; exact h2⟩
  ·obtain ⟨h1,h2⟩:=Lh t l x h
   exact ⟨h1,by rw [lk,acg (by omega)]; exact h2⟩
theorem Ii (t:Nat):∀ l x,lk t (vV l)=some x→lk (t+10000) l=some x
 | [],x,h=>by simp [vV,lk] at h
 | (j,y)::l,x,h=>by
  simp only [vV] at h
  split at h
  ·have:=Ii t l x h; rw [lk,acg (by omega)]; exact this
  ·simp only [lk] at h
   split at h
   ·rename_i e; cases h; rw [lk,acA (by omega)]
   ·rename_i hne
    have:=Ii t l x h; rw [lk,acg (by omega)]; exact this
theorem Ij (keep:List Nat) (t:Nat):∀ l x,lk t (qC keep l)=some x→lk t l=some x
 | [],x,h=>by simp [qC,lk] at h
 | (j,y)::l,x,h=>by
  simp only [qC] at h
  split at h
  ·simp only [lk] at h ⊢
   split at h
   ·rw [acA (by assumption)]; exact h
   ·rw [acg (by assumption)]; exact Ij keep t l x h
  ·rename_i hn
   have:=Ij keep t l x h
   rw [lk]
   split
   ·rename_i e; subst e
    exact (hn (yM keep j l x h)).elim
   ·exact this
where
 yM (keep:List Nat) (t:Nat):∀ l x,lk t (qC keep l)=some x→10000≤t∨keep.contains t=true
 | [],x,h=>by simp [qC,lk] at h
 | (j,y)::l,x,h=>by
  simp only [qC] at h
  split at h
  ·rename_i hc
   simp only [lk] at h
   split at h
   ·rename_i e; subst e; exact hc
   ·exact yM keep t l x h
  ·exact yM keep t l x h
theorem Ik (keep:List Nat) (t:Nat):∀ l x,lk t (qE keep l)=some x→lk t l=some x
 | [],x,h=>by simp [qE,lk] at h
 | (j,y)::l,x,h=>by
  simp only [qE] at h
  split at h
  ·simp only [lk] at h ⊢
   split at h
   ·rw [acA (by assumption)]; exact h
   ·rw [acg (by assumption)]; exact Ik keep t l x h
  ·rename_i hn
   have:=Ik keep t l x h
   rw [lk]
   split
   ·rename_i e; subst e
    exact (hn (yN keep j l x h)).elim
   ·exact this
where
 yN (keep:List Nat) (t:Nat):∀ l x,lk t (qE keep l)=some x→10000≤t∨keep.contains t=true
 | [],x,h=>by simp [qE,lk] at h
 | (j,y)::l,x,h=>by
  simp only [qE] at h
  split at h
  ·rename_i hc
   simp only [lk] at h
   split at h
   ·rename_i e; subst e; exact hc
   ·exact yN keep t l x h
  ·exact yN keep t l x h
theorem PI (x:SV):x.good qY (· - 10000)=true:=by
 induction x with
 | gd c v ih=>exact ih
 | lC c v ih=>exact ih
 | _=>simp [SV.good,qY]
theorem PK:∀ l:List SV,rJ qY (· - 10000) l=true
 | []=>rfl
 | v::l=>by simp only [rJ,PI,PK l,as9]
theorem PL:∀ l:List (Nat × List SV),xC qY (· - 10000) l=true
 | []=>rfl
 | (t,c)::l=>by simp [xC,PK,PL l,qY]
theorem PN:∀ l:List (Nat × Row),xE qY (· - 10000) l=true
 | []=>rfl
 | (t,c)::l=>by simp [xE,PN l,qY]
theorem EH (f:Nat→Nat) (cs:List SV) (j:Nat):(cs.map (SV.ren f)).getD j .dead=(cs.getD j .dead).ren f:=jW (SV.ren f) rfl cs j
theorem aC.enter (g:aC C s a w E) (hr0:∀ i,C.iP i=none) (fn:Func) (keep:List Nat) {args:List SV} {vals:Array Value} (hs:vals.size=args.length) (hv:∀ i,i<args.length→Rel C.P w E s.row (vals.getD i undef) (args.getD i .dead)) (hn:args.length≤fn.ntmps):
  aC (C.sub fn all l k o.dst a) (s.enter keep fn.ntmps args) { tmps:=vals++aew (fn.ntmps - vals.size) undef,defers:=[] } w { E with vb:=fun j=>E.vb (j - 10000),rb:=fun j=>E.rb (j - 10000) }:=by
 have hrow:∀ j r,(s.enter keep fn.ntmps args).row j=some r→s.row (j - 10000)=some r∧qY (j - 10000)=j:=fun j r h=>Ld qY (· - 10000) j r s.rows (PN _) h
 have hvar:∀ j c,(s.enter keep fn.ntmps args).var j=some c→∃ x,s.var (j - 10000)=some x∧c=x.map (SV.ren qY)∧qY (j - 10000)=j:=fun j c h=>by
  obtain ⟨x,h1,h2,h3,_⟩:=Lc qY (· - 10000) j c s.vars (PL _) h; exact ⟨x,h1,h2,h3⟩
 have hrel:∀ v x,Rel C.P w E s.row v x→Rel C.P w { E with vb:=fun j=>E.vb (j - 10000),rb:=fun j=>E.rb (j - 10000) } (s.enter keep fn.ntmps args).row v (x.ren qY):=
  fun v x h=>Rel.ren (inv:=(· - 10000)) (fun j r h=>(hrow j r h).1) (PI x) h
 have hget:∀ t,(s.enter keep fn.ntmps args).get t=(args.getD t .dead).ren qY:=by
  intro t
  simp only [St.get,St.enter,lU,apf,afi,Nat.sub_zero,amV,ab2]
  cases args[t]? <;> rfl
 have nb:∀ t cs,(s.enter keep fn.ntmps args).get t≠.box cs:=fun t cs=>by rw [hget]; exact Le _ cs
 exact {
  kept:=g.kept
  defers:=rfl
  size:=by simp only [aom,aoS]; show _=fn.ntmps; omega
  g0:=g.g0
  g1:=g.g1
  tab:=g.tab
  gw:=g.gw
  slots:=fun t=>by
   rw [hget]
   refine hrel _ _ ?_
   by_cases ht:t<args.length
   ·have h1:t<vals.size:=by omega
    have:(vals++aew (fn.ntmps - vals.size) undef).getD t undef=vals.getD t undef:=by
     simp only [ab5,amL h1]
    simp only [this]; exact hv t ht
   ·have:args.getD t .dead = .dead:=by simp [ab2,ak3 (aqd ht)]
    rw [this]; trivial
  bn:=fun t=>by
   simp only [St.eY,St.enter,BL]
   cases h:lk t (oW s.slots keep++uD s.gs) with
   | none=>trivial
   | some x=>
    rw [EF] at h
    simp only [aiq,aeN]
    refine hrel _ _ ?_
    simp only [Cx.sub]
    cases h1:lk t (oW s.slots keep) with
    | some y=>
     simp only [h1,Option.some_or,acX] at h; subst h
     obtain ⟨h2,h3⟩:=Ih _ _ _ _ h1
     rw [acA h2,h3]; exact g.slots t
    | none=>
     simp only [h1,Option.none_or] at h
     obtain ⟨h2,h3⟩:=MN _ _ _ h
     rw [acg (by omega)]
     have:=g.bn (t - 10000)
     simpa only [St.eY,h3,aeN] using this
  vars:=fun j c h=>by
   obtain ⟨x,h1,rfl,_⟩:=hvar j c h
   obtain ⟨cur,e,m,hs',hr'⟩:=g.vars _ x h1
   refine ⟨cur,e,m,by simpa using hs',fun i hi=>?_⟩
   rw [EH]
   have:=hr' i (by simpa using hi)
   exact ⟨this.1,hrel _ _ this.2⟩
  rows:=fun j r h=>by
   rcases g.rows _ r (hrow j r h).1 with h1 | ⟨b,cap,cur,i1,m,i2⟩
   ·exact .inl h1
   ·exact .inr ⟨b,cap,cur,i1,m,i2⟩
  maps:=g.maps
  boxes:=fun t cs h=>(nb t cs h).elim
  vv:=fun t t' c c' h h' he=>by
   obtain ⟨x,h1,_,e1⟩:=hvar t c h; obtain ⟨x',h1',_,e1'⟩:=hvar t' c' h'
   have:=g.vv _ _ _ _ h1 h1' he
   rw [← e1,← e1',this]
  rr:=fun i i' r r' p h h' hp p' hp' he=>by
   obtain ⟨h1,e1⟩:=hrow i r h; obtain ⟨h1',e1'⟩:=hrow i' r' h'
   have:=g.rr _ _ _ _ p h1 h1' hp p' hp' he
   rw [← e1,← e1',this]
  vr:=fun t c i r p h h' hp=>by
   obtain ⟨x,h1,_,_⟩:=hvar t c h
   have h2:=g.vr _ _ _ r p h1 (hrow i r h').1 hp
   exact h2
  bb:=fun t t' c c' h=>(nb t c h).elim
  bv:=fun t t' c c' h=>(nb t c h).elim
  br:=fun t c i r p h=>(nb t c h).elim
  dN:=fun t b h=>by cases h
  dF:=fun i p h=>by cases h
  cZ:=fun i r p h hp _=>by
   have h2:=g.cZ _ r p (hrow i r h).1 hp (hr0 _)
   exact h2 }
theorem aC.leave {fn:Func} {a':Act} (g:aC (C.sub fn all l k o.dst a) s a' w E) (hv0:∀ i,C.vb0 i=none) (hr0:∀ i,C.iP i=none) (b n:Nat) (kv kr:List Nat) (ok:s.vw b kv kr=true) (ha:a.defers=C.df) (hn:a.tmps.size=n):
  aC C (s.leave b n kv kr) a w { E with vb:=fun j=>E.vb (kQ b j),rb:=fun j=>E.rb (kQ b j) } ∧
   ∀ v x,x.good (oZ b) (kQ b)=true→Rel C.P w E s.row v x→Rel C.P w { E with vb:=fun j=>E.vb (kQ b j),rb:=fun j=>E.rb (kQ b j) } (s.leave b n kv kr).row v (x.ren (oZ b)):=by
 simp only [St.vw,aeC] at ok
 obtain ⟨⟨okg,okv⟩,okr⟩:=ok
 have hrow:∀ j r,(s.leave b n kv kr).row j=some r→s.row (kQ b j)=some r∧oZ b (kQ b j)=j:=fun j r h=>by
  obtain ⟨h1,h2⟩:=Ld (oZ b) (kQ b) j r _ okr h
  exact ⟨Ik _ _ _ _ h1,h2⟩
 have hvar:∀ j c,(s.leave b n kv kr).var j=some c→∃ x,s.var (kQ b j)=some x∧c=x.map (SV.ren (oZ b))∧oZ b (kQ b j)=j∧rJ (oZ b) (kQ b) x=true:=fun j c h=>by
  obtain ⟨x,h1,h2,h3,h4⟩:=Lc (oZ b) (kQ b) j c _ okv h; exact ⟨x,Ij _ _ _ _ h1,h2,h3,h4⟩
 have hrel:∀ v x,x.good (oZ b) (kQ b)=true→Rel C.P w E s.row v x→Rel C.P w { E with vb:=fun j=>E.vb (kQ b j),rb:=fun j=>E.rb (kQ b j) } (s.leave b n kv kr).row v (x.ren (oZ b)):=
  fun v x hx h=>Rel.ren (fun j r h=>(hrow j r h).1) hx h
 refine ⟨?_,hrel⟩
 have nb:∀ t cs,(s.leave b n kv kr).get t≠.box cs:=fun t cs=>by
  simp only [St.get,St.leave,BL]
  cases lk t (yL s.gs) with
  | none=>simp
  | some x=>exact Le x cs
 exact {
  kept:=g.kept
  defers:=ha
  size:=hn
  g0:=g.g0
  g1:=g.g1
  tab:=g.tab
  gw:=g.gw
  slots:=fun t=>by
   simp only [St.get,St.leave,BL]
   cases h:lk t (yL s.gs) with
   | none=>trivial
   | some x=>
    obtain ⟨h1,h2⟩:=Lh _ _ _ h
    simp only [aiq,aeN]
    refine hrel _ _ (EG okg t x h2) ?_
    have:=g.bn t
    simpa only [St.eY,h2,aeN,Cx.sub,acA h1] using this
  bn:=fun t=>by
   simp only [St.eY,St.leave,BL]
   cases h:lk t (vV s.gs) with
   | none=>trivial
   | some x=>
    have h2:=Ii _ _ _ h
    simp only [aiq,aeN]
    refine hrel _ _ (EG okg _ x h2) ?_
    have:=g.bn (t+10000)
    simpa only [St.eY,h2,aeN,Cx.sub,acg (show ¬ t+10000<10000 by omega),as1] using this
  vars:=fun j c h=>by
   obtain ⟨x,h1,rfl,_,h4⟩:=hvar j c h
   obtain ⟨cur,e,m,hs',hr'⟩:=g.vars _ x h1
   refine ⟨cur,e,m,by simpa using hs',fun i hi=>?_⟩
   rw [EH]
   have:=hr' i (by simpa using hi)
   exact ⟨this.1,hrel _ _ (ML h4 i) this.2⟩
  rows:=fun j r h=>by
   rcases g.rows _ r (hrow j r h).1 with h1 | ⟨b,cap,cur,i1,m,i2⟩
   ·exact .inl h1
   ·exact .inr ⟨b,cap,cur,i1,m,i2⟩
  maps:=g.maps
  boxes:=fun t cs h=>(nb t cs h).elim
  vv:=fun t t' c c' h h' he=>by
   obtain ⟨x,h1,_,e1,_⟩:=hvar t c h; obtain ⟨x',h1',_,e1',_⟩:=hvar t' c' h'
   have:=g.vv _ _ _ _ h1 h1' he
   rw [← e1,← e1',this]
  rr:=fun i i' r r' p h h' hp p' hp' he=>by
   obtain ⟨h1,e1⟩:=hrow i r h; obtain ⟨h1',e1'⟩:=hrow i' r' h'
   have:=g.rr _ _ _ _ p h1 h1' hp p' hp' he
   rw [← e1,← e1',this]
  vr:=fun t c i r p h h' hp=>by
   obtain ⟨x,h1,_,_,_⟩:=hvar t c h
   have h2:=g.vr _ _ _ r p h1 (hrow i r h').1 hp
   exact h2
  bb:=fun t t' c c' h=>(nb t c h).elim
  bv:=fun t t' c c' h=>(nb t c h).elim
  br:=fun t c i r p h=>(nb t c h).elim
  dN:=fun t b h=>by rw [hv0] at h; cases h
  dF:=fun i p h=>by rw [hr0] at h; cases h
  cZ:=fun i r p h hp _=>by
   have h2:=g.cZ _ r p (hrow i r h).1 hp rfl
   exact h2 }
theorem R.inline {f:FuncId} {fn:Func} {c:Code} {xs:Array Operand} {ts:Array TypeId} (keep:List Nat) (ho:o.op = .call ⟨.value (.func f),xs,ts⟩) (hg:o.guard=none) (hf:C.P.funcs[f]? = some fn) (hb:fn.body=some c) (he:aH C.P f) (hn:xs.size≤fn.ntmps) (hr0:∀ i,C.iP i=none)
  (h:∀ a,a.defers=C.df→a.tmps.size=s.n→R (C.sub fn all l k o.dst a) [.code c] (s.enter keep fn.ntmps (xs.toList.map (aU s)))):R C (.ops all (o::l)::k) s:=by
 intro a w E g
 refine wpList_plain hg fun K hK=>?_
 have hrun:=gY (P:=C.P) (w:=w) he a.eval o (.func f) xs ts #[] ho #[] rfl
 unfold Oper.wp
 rw [hrun,Oper.upon_enter]
 refine Calls.mono (calls_of_wp hf hb (R:=Cont C all l k o.dst a) ?_) ?_
 ·have g':=g.enter (all:=all) (l:=l) (k:=k) (o:=o) hr0 fn keep (args:=xs.toList.map (aU s)) (vals:=#[]++xs.map a.eval ++ #[]) (by simp) (fun i hi=>by
   simp only [aci,Array.length_toList] at hi
   have:=aV g xs[i]
   simpa [hi] using this) (by simpa using hn)
  have:=h a g.defers g.size _ w _ g'
  simp only [fin] at this
  exact wp_mono this (fun e a w h=>h)
 ·intro e w' h
  cases e with
  | returned v=>exact hK _ _ h
  | panicked ch=>exact nI a w' h k
  | _=>exact h.elim
def Dj (P:Program) (s:St):List ResultVar→Option (Prop × SV)
 | []=>some (True,.dead)
 | [.tmp t]=>some (True,(s.get t).unbox)
 | [.cell t ty]=>(jZ P s.var s.row ty (s.get t)).map fun p=>(p.1,p.2.unbox)
 | rv=>(resD P s rv).map fun p=>(p.1,.tpl p.2)
theorem ZT {fn:Func} {a':Act} (g:aC (C.sub fn all l k o.dst a) s a' w E) (hv0:∀ i,C.vb0 i=none) (hr0:∀ i,C.iP i=none) (b n:Nat) (kv kr:List Nat) {vc:Prop} {x:SV} (h:Dj C.P s fn.results.toList=some (vc,x)) (aY:vc) (ok:s.vw b kv kr=true) (hx:x.good (oZ b) (kQ b)=true)
  (ha:a.defers=C.df) (hn:a.tmps.size=n) (hd:bP (s.leave b n kv kr) o) (next:R C (.ops all l::k) ((s.leave b n kv kr).put o.dst (x.ren (oZ b)))):
  a'.defers=[]∧∃ v,(results fn a'.tmps).run C.P w = .ok v w∧Cont C all l k o.dst a (.returned v) w:=by
 obtain ⟨g1,hrel⟩:=g.leave hv0 hr0 b n kv kr ok ha hn
 refine ⟨g.defers,?_⟩
 have fin':∀ v,Rel C.P w E s.row v x→Cont C all l k o.dst a (.returned v) w:=fun v hv=>next _ _ _ (g1.gW hd (hrel _ _ hx hv) (Le x))
 match hrv:fn.results.toList,h with
 | [],h=>
  simp only [Dj,acX,aoo] at h; obtain ⟨rfl,rfl⟩:=h
  exact ⟨_,iL (vs:=[]) (by rw [hrv]; simp),fin' _ trivial⟩
 | [.tmp t],h=>
  simp only [Dj,acX,aoo] at h; obtain ⟨rfl,rfl⟩:=h
  exact ⟨_,iL (vs:=[a'.tmps.getD t undef]) (by rw [hrv]; simp [oO]),fin' _ (g.slots t).unbox⟩
 | [.cell t ty],h=>
  simp only [Dj] at h
  cases hl:jZ C.P s.var s.row ty (s.get t) with
  | none=>simp [hl] at h
  | some p=>
   simp only [hl,aiq,acX,aoo] at h; obtain ⟨rfl,rfl⟩:=h
   obtain ⟨u,hu,hr⟩:=Ep (C:=C.sub fn all l k o.dst a) g (vc:=p.1) (v:=p.2) hl aY (g.slots t)
   obtain ⟨ad,e1,e2⟩:=Js hu
   have e3:Sem.run C.P (loadVar ty ad) w = .ok u w:=e2
   exact ⟨_,iL (vs:=[u]) (by rw [hrv]; simp [oO,e1,asAddr,e3]),fin' _ hr.unbox⟩
 | r1::r2::rest,h=>
  simp only [Dj] at h
  cases hl:resD C.P s (r1::r2::rest) with
  | none=>simp [hl] at h
  | some p=>
   simp only [hl,aiq,acX,aoo] at h; obtain ⟨rfl,rfl⟩:=h
   obtain ⟨vs,h1,h2,h3⟩:=nN g (rv:=r1::r2::rest) (vc:=p.1) (rs:=p.2) hl aY
   refine ⟨_,iL (by rw [hrv]; exact h1),fin' _ ?_⟩
   have hl2:¬ vs.toArray.size=1:=by
    have:p.2.length=(r1::r2::rest).length:=AB hl
    simp at this; simp; omega
   rw [asf hl2]
   exact ⟨vs.toArray,rfl,by simp [h2],fun j hj=>by simpa [ab5,ab2] using h3 j hj⟩
theorem R.leave {fn:Func} {k':List KI} (hv0:∀ i,C.vb0 i=none) (hr0:∀ i,C.iP i=none) (b n:Nat) (kv kr:List Nat) {vc:Prop} {x:SV} (h:Dj C.P s fn.results.toList=some (vc,x)) (aY:vc) (ok:s.vw b kv kr=true) (hx:x.good (oZ b) (kQ b)=true)
  (ha:a.defers=C.df) (hn:a.tmps.size=n) (hd:bP (s.leave b n kv kr) o) (next:R C (.ops all l::k) ((s.leave b n kv kr).put o.dst (x.ren (oZ b)))):R (C.sub fn all l k o.dst a) (.code .ret::k') s:=
 R.ret fun _ _ _ g=>ZT g hv0 hr0 b n kv kr h aY ok hx ha hn hd next
end
def adr (all:Array Oper) (n m:Nat) (o:Oper):Bool:=(o.looksAt all).all fun t=>(all.toList.zipIdx).all fun p=>decide (n≤p.2) || p.1.dst != some t || m.testBit p.2
def BM (all:Array Oper) (n:Nat):Bool:=
 let ms:=masks all.toList []
 (all.toList.zipIdx).all (fun p=>uh p.2 p.1&&(if p.2<n then adr all n (ms.getD p.2 0) p.1&&(all.toList.zipIdx).all (fun q=>!(decide (q.2<p.2)) || q.1.dst == none || q.1.dst != p.1.dst)
  else (aeI p.2).all fun j=>(ms.getD p.2 0).testBit j))&&decide (n≤all.size)
structure Gm (all:Array Oper) (n:Nat):Prop where
 le:n≤all.size
 edge:∀ i o,all[i]? = some o→∀ e∈o.after,am3 .any e=true→e.on<i
 look:∀ i o,i<n→all[i]? = some o→∀ t∈o.looksAt all,∀ j o',j<n→all[j]? = some o'→o'.dst=some t→((masks all.toList []).getD i 0).testBit j=true
 dist:∀ i j o o' t,i<n→j<i→all[i]? = some o→all[j]? = some o'→o.dst=some t→o'.dst=some t→False
 tail:∀ i o,n≤i→all[i]? = some o→∀ j,j<i→((masks all.toList []).getD i 0).testBit j=true
 good:OB all.toList (masks all.toList [])
 len:(masks all.toList []).length=all.size
theorem MO {all:Array Oper} {n:Nat} (h:BM all n=true):Gm all n:=by
 unfold BM at h
 simp only [aeC,aon] at h
 obtain ⟨h1,h2⟩:=h
 have hp:∀ i o,all[i]? = some o→_:=fun i o ho=>(aeA.1 h1) (o,i) (mem_zipIdx' ho)
 obtain ⟨hg,hl⟩:=Jt all.toList all.toList [] (by simp) (by simp) (fun i o hi=>by simp at hi)
 refine ⟨h2,fun i o ho e he hb=>?_,fun i o hi ho t ht j o' hjn ho' hd=>?_,fun i j o o' t hi hj ho ho' hd hd'=>?_,fun i o hi ho j hj=>?_,hg,by simpa using hl⟩
 ·have:=hp i o ho
  simp only [aeC] at this
  have h3:=(aeA.1 this.1) e (by simpa using he)
  simpa [hb] using h3
 ·have:=hp i o ho
  simp only [aeC,acA hi] at this
  have h3:=(aeA.1 this.2.1) t ht
  have h4:=(aeA.1 h3) (o',j) (mem_zipIdx' ho')
  simpa [hd,Nat.not_le.2 hjn] using h4
 ·have:=hp i o ho
  simp only [aeC,acA hi] at this
  have h4:=(aeA.1 this.2.2) (o',j) (mem_zipIdx' ho')
  simp [hd,hd',hj] at h4
 ·have:=hp i o ho
  simp only [aeC,acg (Nat.not_lt.2 hi)] at this
  exact (aeA.1 this.2) j (by simpa using hj)
section
variable {C:Cx} {s s':St} {a:Act} {w w':World} {E:Env} {P:Program} {all:Array Oper} {k:List KI} {o:Oper}
theorem oM {n:Nat} (D:Gm all n) {L:Array Bool} (hc:∀ i o,L.getD i false=true→all[i]? = some o→∀ e∈o.after,am3 .any e=true→L.getD e.on false=true) (hs:L.size=all.size):
  ∀ i o,all[i]? = some o→(∀ e∈o.after,am3 .any e=true→L.getD e.on false=true)→∀ j,((masks all.toList []).getD i 0).testBit j=true→L.getD j false=true∧j<i:=by
 intro i
 induction i using Nat.strongRecOn with
 | _ i ih=>
  intro o ho he j hb
  have hi:i<all.size:=(acR.1 ho).1
  obtain ⟨e,hem,hbd,h1⟩:=D.good i o (by rw [D.len]; exact hi) (by simpa using ho) j hb
  have aeV:e∈o.after:=by simpa using hem
  have hlt:=D.edge i o ho e aeV hbd
  have hL:=he e aeV hbd
  rcases h1 with h1 | h1
  ·subst h1; exact ⟨hL,hlt⟩
  ·have h2:e.on<all.size:=by omega
   have h3:all[e.on]? = some all[e.on]:=by simp [h2]
   have:=ih e.on hlt all[e.on] h3 (hc e.on _ hL h3) j h1
   exact ⟨this.1,by omega⟩
theorem Jw {n:Nat} (D:Gm all n) {Q:Exit→Act→World→Prop}:∀ (l:List Oper) (m:Nat) (L:Array Bool) (fuel:Nat) (a:Act) (w:World),n≤m→m+l.length=all.size→(∀ j,l[j]? = all[m+j]?)→l.length≤fuel→L.size=all.size →
  (∀ i,i<all.size→L.getD i false=decide (i<m))→wpList C.P all Q l a w→wpAny C.P .any all Q fuel L a w
 | [],m,L,fuel,a,w,hn,hm,hl,hf,hs,hL,h=>by
  have hr:anX .any all L=[]:=by
   apply asw.2
   intro i hi
   obtain ⟨h1,o,ho,_⟩:=mem_ready.1 hi
   have hlt:=(acR.1 ho).1
   rw [iF (by omega),hL i hlt] at h1
   simp at h1 hm; omega
  cases fuel with
  | zero=>exact ⟨hr,h⟩
  | succ f=>exact ⟨fun _=>h,fun i hi=>by rw [hr] at hi; cases hi⟩
 | o::l,m,L,fuel,a,w,hn,hm,hl,hf,hs,hL,h=>by
  simp only [aey] at hm hf
  have ho:all[m]? = some o:=by have:=hl 0; simpa using this.symm
  have aeW:m<all.size:=by omega
  have Xx:m∈anX .any all L:=mem_ready.2 ⟨by rw [iF (by omega),hL m aeW]; simp,o,ho,fun e he hb=>by
   have:=D.edge m o ho e he hb
   rw [hL e.on (by omega)]; simpa using this⟩
  have aiG:∀ i,i∈anX .any all L→i=m:=by
   intro i hi
   obtain ⟨h1,o',ho',hall⟩:=mem_ready.1 hi
   have hlt:=(acR.1 ho').1
   rw [iF (by omega),hL i hlt] at h1
   simp at h1
   rcases amR m i with c | c
   ·have hbit:=D.tail i o' (by omega) ho' m c
    have hcl:∀ i o,L.getD i false=true→all[i]? = some o→∀ e∈o.after,am3 .any e=true→L.getD e.on false=true:=by
     intro i2 o2 h2 ho2 e he hb
     have h3:=(acR.1 ho2).1
     rw [hL i2 h3] at h2
     have h4:=D.edge i2 o2 ho2 e he hb
     rw [hL e.on (by omega)]
     simp at h2 ⊢; omega
    have:=(oM D hcl hs i o' ho' hall m hbit).1
    rw [hL m aeW] at this
    simp at this
   ·omega
  cases fuel with
  | zero=>omega
  | succ f=>
   refine ⟨fun hnil=>(by rw [hnil] at Xx; cases Xx),fun i hi=>?_⟩
   obtain rfl:=aiG i hi
   have hw:wpOp C.P all Q i (wpList C.P all Q l) a w:=by
    unfold wpOp
    simp only [ho]
    exact h
   refine wpOp_mono (fun a' w' h'=>?_) hw
   refine Jw D l (i+1) _ f a' w' (by omega) (by omega) (fun j=>?_) (by omega) (by simpa using hs) (fun i' hi'=>?_) h'
   ·have:=hl (j+1); simp only [List.getElem?_cons_succ] at this; rw [this]; congr 1; omega
   ·by_cases c:i'=i
    ·subst c; rw [oC (by omega)]; simp
    ·rw [getD_set_ne false (an2 c),hL i' hi']
     simp; omega
end
def zH (row row':Nat→Option Row):Prop:=∀ i r,row i=some r→row' i=some r
section
variable {C:Cx} {s s':St} {all:Array Oper} {k:List KI} {P:Program} {o:Oper} {row row':Nat→Option Row} {var:Nat→Option (List SV)} {ρ:Operand→SV}
theorem zH.key (h:zH row row') (i:Nat):row i=none∨row' i=row i:=by
 cases e:row i with
 | none=>exact .inl rfl
 | some r=>exact .inr (h i r e)
theorem ads (h:zH row row') (op:Op) {x:Prop × SV} (hx:ay P ρ var row op=some x):ay P ρ var row' op=some x:=by
 have key:=h.key
 cases op with
 | load t y=>
  simp only [ay] at hx ⊢
  generalize ρ y=v at hx ⊢
  cases v with
  | iR id i off=>
   simp only [jZ] at hx ⊢
   rcases key id with e | e
   ·rw [e] at hx; cases hx
   ·rw [e]; exact hx
  | _=>exact hx
 | nilCheck y=>
  simp only [ay] at hx ⊢
  generalize ρ y=v at hx ⊢
  cases v with
  | iR id i off=>
   simp only [zC] at hx ⊢
   rcases key id with e | e
   ·rw [e] at hx; simp at hx
   ·rw [e]; exact hx
  | pd d=>cases d <;> first | exact hx | (rename_i v; cases v <;> first | exact hx | (rename_i fr a b; cases fr <;> exact hx))
  | _=>exact hx
 | fieldAddr t y f=>
  simp only [ay,mF] at hx ⊢
  generalize ρ y=v at hx ⊢
  cases hf:dI P t f with
  | none=>rw [hf] at hx; cases hx
  | some p=>
   obtain ⟨off,ft⟩:=p
   rw [hf] at hx
   cases v with
   | iR id i o=>
    simp only at hx ⊢
    rcases key id with e | e
    ·rw [e] at hx; simp at hx
    ·rw [e]; exact hx
   | _=>exact hx
 | indexAddr t y i=>
  simp only [ay] at hx ⊢
  generalize ρ y=v at hx ⊢
  cases hi:idx (ρ i) with
  | none=>rw [hi] at hx; cases hx
  | some ki=>
   rw [hi] at hx
   simp only [Option.bind_some,pz] at hx ⊢
   cases hs:fC P t with
   | none=>rw [hs] at hx; exact hx
   | some e0=>
    rw [hs] at hx
    cases v with
    | own id=>
     simp only at hx ⊢
     rcases key id with e | e
     ·rw [e] at hx; cases hx
     ·rw [e]; exact hx
    | view id k0=>
     simp only at hx ⊢
     rcases key id with e | e
     ·rw [e] at hx; cases hx
     ·rw [e]; exact hx
    | pd d=>cases d <;> exact hx
    | _=>exact hx
 | call c=>
  obtain ⟨f,xs,ts⟩:=c
  simp only [ay,yE] at hx ⊢
  generalize xs.toList=l at hx ⊢
  generalize ts.toList=m at hx ⊢
  cases f with
  | builtin b=>
   cases b with
   | len=>
    rcases l with _ | ⟨y,_ | ⟨z,l⟩⟩ <;> rcases m with _ | ⟨t,_ | ⟨u,m⟩⟩ <;> try exact hx
    simp only at hx ⊢
    generalize ρ y=v at hx ⊢
    cases v with
    | own id=>
     simp only [zB] at hx ⊢
     rcases key id with e | e
     ·rw [e] at hx; cases hx
     ·rw [e]; exact hx
    | view id k0=>
     simp only [zB] at hx ⊢
     rcases key id with e | e
     ·rw [e] at hx; cases hx
     ·rw [e]; exact hx
    | pd d=>cases d <;> first | exact hx | (rename_i v; cases v <;> first | exact hx | (rename_i fr a b; cases fr <;> exact hx))
    | _=>exact hx
   | _=>exact hx
  | _=>exact hx
 | makeFunc fn first cs=>cases fn <;> exact hx
 | slice t x lo hi mx=>cases mx <;> exact hx
 | _=>exact hx
theorem Cv.mono (h:zH row row') {x:SV} {d:PD} (hc:Cv var row x d):Cv var row' x d:=by
 induction hc with
 | pd d=>exact .pd d
 | nil sz=>exact .nil sz
 | own id r hr=>exact .own id r (h _ _ hr)
 | clo f ts ds hl css hv hc ih=>exact .clo f ts ds hl css hv ih
theorem Co.mono (h:zH row row') {x y:SV} {b:Bool} (hc:Co P var row x y b):Co P var row' x y b:=by
 cases hc with
 | dead=>exact .dead _
 | pd=>exact .pd _
 | ref=>exact .ref _ _
 | fn=>exact .fn _
 | nil=>exact .nil _
 | own id r hr=>exact .own id r (h _ _ hr)
 | var t cs d h1 hw hc=>exact .var t cs d h1 hw fun j hj=>(hc j hj).mono h
 | elem id i o r hr hi=>exact .elem id i o r (h _ _ hr) hi
 | func f F he h1=>exact .func f F he h1
 | clo f ts ds F hv he h1=>exact .clo f ts ds F (hv.mono h) he h1
 | Et f ds F he h1=>exact .Et f ds F he h1
theorem iU.mono (h:zH row row') {xs ys:List SV} {b:Bool} (hc:iU P var row xs ys b):iU P var row' xs ys b:=by
 induction hc with
 | nil=>exact .nil
 | cons h1 _ ih=>exact .cons (h1.mono h) ih
theorem Y.mono {dr:Bool} {v:SV} (h:zH row row') (y:Y dr P var row ρ o v):Y dr P var row' ρ o v:=by
 cases y with
 | op vc v h1 aY=>exact .op vc v (ads h _ h1) aY
 | call f xs ts args rs l ho hc hf hl=>exact .call f xs ts args rs l ho (hc.mono h) hf hl
 | rH f xs ts args rs l hdr ho hc hf hl=>exact .rH f xs ts args rs l hdr ho (hc.mono h) hf hl
 | lT t xs ts F ds r ho ht hd hF=>exact .lT t xs ts F ds r ho ht hd hF
 | fP t f xs ts args rs l ho ht hc hf hl=>exact .fP t f xs ts args rs l ho ht (hc.mono h) hf hl
 | pG t f xs ts args rs l hdr ho ht hc hf hl=>exact .pG t f xs ts args rs l hdr ho ht (hc.mono h) hf hl
 | mZ t f ds xs ts args rs l ho ht hc hf hl=>exact .mZ t f ds xs ts args rs l ho ht (hc.mono h) hf hl
 | look t x k ok ks ds key kt e td d ho hx hk ht fd h1=>exact .look t x k ok ks ds key kt e td d ho hx hk ht fd h1
 | slice t e n sz parts ds ho he hz h0 hn hp hd hw hzero=>exact .slice t e n sz parts ds ho he hz h0 hn hp hd hw hzero
 | alloc t zs ho hz h1=>exact .alloc t zs ho hz h1
theorem YG.mono {dr:Bool} {v:SV} (hg:∀ t,s'.get t=s.get t) (hv:s'.vars=s.vars) (hr:zH s.row s'.row) (y:YG dr P all s o v):YG dr P all s' o v:=by
 have e0:aU s'=aU s:=funext fun x=>MJ fun t _=>hg t
 have e1:tZ s'=tZ s:=funext fun x=>by simp only [tZ,e0]
 have hvar:s'.var=s.var:=by funext t; simp [St.var,hv]
 rcases y with ⟨h1,h2⟩ | ⟨j,want,t,c,v',h1,h2,h3,h4,h5⟩ | ⟨j,want,t,h1,h2,h3⟩
 ·exact .inl ⟨h1,by rw [hvar,e0]; exact h2.mono hr⟩
 ·refine .inr (.inl ⟨j,want,t,c,v',h1,h2,by rw [hg t]; exact h3,h4,fun hc=>?_⟩)
  obtain ⟨h6,h7⟩:=h5 hc
  exact ⟨by rw [e0]; exact h6,by rw [hvar,e1]; exact h7.mono hr⟩
 ·refine .inr (.inr ⟨j,want,t,h1,h2,?_⟩)
  rw [hg t]
  rcases h3 with ⟨h4,h5⟩ | h4
  ·exact .inl ⟨h4,by rw [hvar,e0]; exact h5.mono hr⟩
  ·exact .inr h4
end
def St.hide (Q:List Nat) (s:St):St:={ s with rows:=s.rows.filter fun p=>!Q.contains p.1 }
inductive It where
 | y (v:SV)
 | a (q:Nat) (r:Option Row) (x:SV)
def St.chain (s:St) (q:Nat) (r:Option Row):St:=
 { s with slots:=s.slots.map fun p=>(p.1,p.2.aZ q),vars:=s.vars.map fun p=>(p.1,p.2.map (SV.aZ q)),rows:=(match r with | some r=>up q r s.rows | none=>er q s.rows),gs:=s.gs.map fun p=>(p.1,p.2.aZ q) }
theorem nK (s:St) (i:Nat) (r:Option Row) (j:Nat):(s.chain i r).get j=(s.get j).aZ i:=by
 simp only [St.get,St.chain,gB]; cases lk j s.slots <;> rfl
theorem wC (s:St) (i:Nat) (r:Option Row) (j:Nat):(s.chain i r).row j=if j=i then r else s.row j:=by
 cases r with
 | some r=>simp only [St.row,St.chain,jA]
 | none=>simp only [St.row,St.chain,UM]
def It.app (s:St) (o:Oper):It→St
 | .y v=>s.put o.dst v
 | .a q r x=>(s.chain q r).put o.dst x
def Xy (q:Nat) (x:SV):Prop:=x = .own q∨x = .dead∨∃ d,x = .pd d
def Dk (s:St):List (Oper × It)→St
 | []=>s
 | p::l=>Dk (p.2.app s p.1) l
theorem G8 (s:St):∀ (l l':List (Oper × It)),Dk s (l++l')=Dk (Dk s l) l'
 | [],_=>rfl
 | _::l,l'=>G8 _ l l'
def ZU (C:Cx) (all:Array Oper) (s:St) (o:Oper) (q:Nat) (r:Option Row) (x:SV):Prop:=
 ∀ (s':St) (k:List KI),s'.n=s.n→(∀ t∈o.looksAt all,s'.get t=s.get t)→s'.row q=s.row q→R C (.ops all []::k) ((s'.chain q r).put o.dst x)→R C (.ops all [o]::k) s'
def Jy (C:Cx) (all:Array Oper) (Q:List Nat) (tail:List Oper) (k:List KI):List (Oper × Option Nat)→St→Prop
 | [],s=>R C (.ops all tail::k) s
 | (o,none)::l,s=>∃ v,YG C.dr C.P all (s.hide Q) o v∧bP s o∧(∀ q∈Q,v.aZ q=v)∧Jy C all Q tail k l (s.put o.dst v)
 | (o,some q)::l,s=>∃ r x,q∈Q∧Xy q x∧ZU C all s o q r x∧bP s o∧o.dst≠none∧Jy C all Q tail k l ((s.chain q r).put o.dst x)
def aeX (C:Cx) (all:Array Oper) (Q:List Nat) (S:St) (o:Oper):Option Nat→It→Prop
 | none,.y v=>YG C.dr C.P all (S.hide Q) o v∧bP S o∧∀ q∈Q,v.aZ q=v
 | some q,.a q' r x=>q'=q∧q∈Q∧Xy q x∧ZU C all S o q r x∧bP S o∧o.dst≠none
 | _,_=>False
section
variable {C:Cx} {s s':St} {all:Array Oper} {k:List KI} {P:Program} {o:Oper}
theorem Jy.unfold {Q:List Nat} (tail:List Oper):∀ (l:List (Oper × Option Nat)) (s:St),Jy C all Q tail k l s→∃ its:List It,its.length=l.length∧R C (.ops all tail::k) (Dk s ((l.map (·.1)).zip its)) ∧
   ∀ i o q,l[i]? = some (o,q)→∃ it,its[i]? = some it∧aeX C all Q (Dk s (((l.map (·.1)).zip its).take i)) o q it
 | [],s,h=>⟨[],rfl,h,fun i o q ho=>by simp at ho⟩
 | (o,none)::l,s,h=>by
  obtain ⟨v,h1,h2,h3,h4⟩:=h
  obtain ⟨its,hl,hr,hy⟩:=Jy.unfold tail l _ h4
  refine ⟨.y v::its,by simp [hl],hr,fun i o' q ho=>?_⟩
  cases i with
  | zero=>simp at ho; obtain ⟨rfl,rfl⟩:=ho; exact ⟨.y v,rfl,h1,h2,h3⟩
  | succ i=>exact hy i o' q (by simpa using ho)
 | (o,some q)::l,s,h=>by
  obtain ⟨r,x,h1,hx,h2,h3,h4,h5⟩:=h
  obtain ⟨its,hl,hr,hy⟩:=Jy.unfold tail l _ h5
  refine ⟨.a q r x::its,by simp [hl],hr,fun i o' q' ho=>?_⟩
  cases i with
  | zero=>simp at ho; obtain ⟨rfl,rfl⟩:=ho; exact ⟨.a q r x,rfl,rfl,h1,hx,h2,h3,h4⟩
  | succ i=>exact hy i o' q' (by simpa using ho)
def Clean (q:Nat) (s:St):Prop:=(s.slots.map fun p=>(p.1,p.2.aZ q))=s.slots∧(s.vars.map fun p=>(p.1,p.2.map (SV.aZ q)))=s.vars∧(s.gs.map fun p=>(p.1,p.2.aZ q))=s.gs
theorem Clean.get {q:Nat} (h:Clean q s) (t:Nat):(s.get t).aZ q=s.get t:=by
 have h1:=St.CG s q ⟨0,0,[]⟩ t
 rw [← h1]
 simp only [St.get,St.newRow,h.1]
theorem qF (s:St) (d:Option Nat) (v:SV) (i:Nat):(s.put d v).row i=s.row i:=by cases d <;> rfl
theorem zI (s:St) (d:Option Nat) (v:SV):(s.put d v).n=s.n∧(s.put d v).vars=s.vars∧(s.put d v).maps=s.maps∧(s.put d v).gs=s.gs:=by cases d <;> exact ⟨rfl,rfl,rfl,rfl⟩
structure mG (C:Cx) (all:Array Oper) (n:Nat) (Q:List Nat) (qs:Nat→Option Nat) (s:St) (S:Nat→St):Prop where
 zero:S 0=s
 step:∀ i o,i<n→all[i]? = some o→∃ it,S (i+1)=it.app (S i) o∧aeX C all Q (S i) o (qs i) it
 clean:∀ q∈Q,Clean q s
 top:∀ i,n≤i→qs i=none
 size:n≤all.size
 dist:∀ i j o o' t,i<n→j<i→all[i]? = some o→all[j]? = some o'→o.dst=some t→o'.dst=some t→False
section
variable {n:Nat} {Q:List Nat} {qs:Nat→Option Nat} {S:Nat→St}
theorem mG.case (H:mG C all n Q qs s S) {i:Nat} (hi:i<n) (ho:all[i]? = some o):
  (qs i=none∧∃ v,S (i+1)=(S i).put o.dst v∧YG C.dr C.P all ((S i).hide Q) o v∧bP (S i) o∧∀ q∈Q,v.aZ q=v) ∨
  ∃ q r x,qs i=some q∧q∈Q∧S (i+1)=((S i).chain q r).put o.dst x∧Xy q x∧ZU C all (S i) o q r x∧bP (S i) o∧o.dst≠none:=by
 obtain ⟨it,h1,h2⟩:=H.step i o hi ho
 cases hq:qs i with
 | none=>
  rw [hq] at h2
  cases it with
  | y v=>exact .inl ⟨rfl,v,h1,h2⟩
  | a q r x=>exact h2.elim
 | some q=>
  rw [hq] at h2
  cases it with
  | y v=>exact h2.elim
  | a q' r x=>
   obtain ⟨rfl,h3,hx,h4,h5,h6⟩:=h2
   exact .inr ⟨q',r,x,rfl,h3,h1,hx,h4,h5,h6⟩
theorem mG.op (H:mG C all n Q qs s S) {i:Nat} (hi:i<n):∃ o,all[i]? = some o:=⟨all[i]'(ail hi H.size),by have:=H.size; simp [show i<all.size by omega]⟩
theorem mG.ne (H:mG C all n Q qs s S) {i j:Nat} {o o':Oper} {t:Nat} (hi:i<n) (hj:j<n) (hij:i≠j) (ho:all[i]? = some o) (ho':all[j]? = some o') (hd:o.dst=some t):o'.dst≠some t:=fun hd'=>by
 rcases Nat.lt_or_gt_of_ne hij with c | c
 ·exact H.dist j i o' o t hj c ho' ho hd' hd
 ·exact H.dist i j o o' t hi c ho ho' hd hd'
theorem mG.frame (H:mG C all n Q qs s S):∀ m,m≤n→(S m).n=s.n∧(S m).vars=s.vars∧(S m).maps=s.maps∧(S m).gs=s.gs
 | 0,_=>by rw [H.zero]; exact ⟨rfl,rfl,rfl,rfl⟩
 | m+1,hm=>by
  obtain ⟨h1,h2,h3,h4⟩:=H.frame m (by omega)
  obtain ⟨o,ho⟩:=H.op (i:=m) (by omega)
  rcases H.case (by omega) ho with ⟨_,v,e,_⟩ | ⟨q,r,x,_,hq,e,_⟩
  ·rw [e]
   obtain ⟨p1,p2,p3,p4⟩:=zI (S m) o.dst v
   exact ⟨p1.trans h1,p2.trans h2,p3.trans h3,p4.trans h4⟩
  ·rw [e]
   obtain ⟨p1,p2,p3,p4⟩:=zI ((S m).chain q r) o.dst x
   have hc:=H.clean q hq
   exact ⟨p1.trans h1,p2.trans (by show apO _ (S m).vars=_; rw [h2]; exact hc.2.1),p3.trans h3,p4.trans (by show apO _ (S m).gs=_; rw [h4]; exact hc.2.2)⟩
theorem mG.rows (H:mG C all n Q qs s S) {i:Nat} (hi:i∉Q):∀ m,m≤n→(S m).row i=s.row i
 | 0,_=>by rw [H.zero]
 | m+1,hm=>by
  have h1:=H.rows hi m (by omega)
  obtain ⟨o,ho⟩:=H.op (i:=m) (by omega)
  rcases H.case (by omega) ho with ⟨_,v,e,_⟩ | ⟨q,r,x,_,hq,e,_⟩
  ·rw [e,qF]; exact h1
  ·rw [e,qF,wC,acg (fun e:i=q=>hi (by rw [e]; exact hq))]; exact h1
theorem mG.rest (H:mG C all n Q qs s S) {t:Nat}:∀ m,m≤n→(∀ i o,i<m→all[i]? = some o→o.dst≠some t)→(S m).get t=s.get t
 | 0,_,_=>by rw [H.zero]
 | m+1,hm,h=>by
  have h1:=H.rest m (by omega) fun i o hi=>h i o (by omega)
  obtain ⟨o,ho⟩:=H.op (i:=m) (by omega)
  have hd:=h m o (by omega) ho
  rcases H.case (by omega) ho with ⟨_,v,e,_⟩ | ⟨q,r,x,_,hq,e,_⟩
  ·rw [e,get_put,acg hd]; exact h1
  ·rw [e,get_put,acg hd,nK,h1]; exact (H.clean q hq).get t
theorem mG.ZV (H:mG C all n Q qs s S) {i:Nat} {t:Nat} (hi:i<n) (ho:all[i]? = some o) (hd:o.dst=some t) (hq:qs i=none):
  (∀ q∈Q,((S (i+1)).get t).aZ q=(S (i+1)).get t)∧∀ m,i<m→m≤n→(S m).get t=(S (i+1)).get t:=by
 rcases H.case hi ho with ⟨_,v,e,_,_,hk⟩ | ⟨q,r,x,hq',_⟩
 ·have hv:(S (i+1)).get t=v:=by rw [e,get_put,acA hd]
  rw [hv]
  refine ⟨hk,fun m hm=>?_⟩
  induction m with
  | zero=>omega
  | succ m ih=>
   intro hmn
   by_cases c:m=i
   ·subst c; exact hv
   ·have h1:=ih (by omega) (by omega)
    obtain ⟨o',ho'⟩:=H.op (i:=m) (by omega)
    have hne:=H.ne hi (by omega) (an2 c) ho ho' hd
    rcases H.case (by omega) ho' with ⟨_,v',e',_⟩ | ⟨q,r,x,_,hq',e',_⟩
    ·rw [e',get_put,acg hne]; exact h1
    ·rw [e',get_put,acg hne,nK,h1]; exact hk q hq'
 ·rw [hq] at hq'; cases hq'
theorem mG.ZW (H:mG C all n Q qs s S) {i:Nat} {t q:Nat} (hi:i<n) (ho:all[i]? = some o) (hd:o.dst=some t) (hq:qs i=some q):∀ m,i<m→m≤n→Xy q ((S m).get t)
 | 0,h,_=>by omega
 | m+1,h,hm=>by
  obtain ⟨o',ho'⟩:=H.op (i:=m) (by omega)
  by_cases c:m=i
  ·subst c
   rw [ho] at ho'; cases ho'
   rcases H.case hi ho with ⟨h1,_⟩ | ⟨q',r,x,h1,_,e,hx,_⟩
   ·rw [hq] at h1; cases h1
   ·rw [hq] at h1; cases h1
    rw [e,get_put,acA hd]; exact hx
  ·have h1:=H.ZW hi ho hd hq m (by omega) (by omega)
   have hne:=H.ne hi (by omega) (an2 c) ho ho' hd
   rcases H.case (by omega) ho' with ⟨_,v',e',_⟩ | ⟨q',r,x',_,hq',e',_⟩
   ·rw [e',get_put,acg hne]; exact h1
   ·rw [e',get_put,acg hne,nK]
    rcases h1 with h1 | h1 | ⟨d,h1⟩
    ·rw [h1]; simp only [SV.aZ]
     split
     ·exact .inr (.inl rfl)
     ·exact .inl rfl
    ·rw [h1]; exact .inr (.inl rfl)
    ·rw [h1]; exact .inr (.inr ⟨d,rfl⟩)
theorem ach {q q':Nat} (h:q≠q') {x:SV} (hx:Xy q x):x.aZ q'=x:=by
 rcases hx with rfl | rfl | ⟨d,rfl⟩
 ·simp only [SV.aZ]; rw [acg h]
 ·rfl
 ·rfl
theorem mG.still (H:mG C all n Q qs s S) {q m:Nat}:∀ m',m≤m'→m'≤n→(∀ j,m≤j→j<m'→qs j≠some q)→(S m').row q=(S m).row q ∧
  ∀ i o t,i<m→i<n→all[i]? = some o→o.dst=some t→qs i=some q→(S m').get t=(S m).get t
 | 0,h,_,_=>by
  obtain rfl:m=0:=by omega
  exact ⟨rfl,fun _ _ _ _ _ _ _ _=>rfl⟩
 | m' + 1,h,hm,hno=>by
  by_cases c:m=m' + 1
  ·subst c; exact ⟨rfl,fun _ _ _ _ _ _ _ _=>rfl⟩
  ·obtain ⟨h1,h2⟩:=H.still m' (by omega) (by omega) fun j hj hj'=>hno j hj (by omega)
   obtain ⟨o',ho'⟩:=H.op (i:=m') (by omega)
   have hq:=hno m' (by omega) (by omega)
   rcases H.case (by omega) ho' with ⟨_,v',e',_⟩ | ⟨q',r,x',hq',_,e',_⟩
   ·refine ⟨by rw [e',qF]; exact h1,fun i o t him hin ho hd hqi=>?_⟩
    rw [e',get_put,acg (H.ne hin (by omega) (by omega) ho ho' hd)]; exact h2 i o t him hin ho hd hqi
   ·have hne:q≠q':=fun e=>hq (by rw [hq',e])
    refine ⟨by rw [e',qF,wC,acg hne]; exact h1,fun i o t him hin ho hd hqi=>?_⟩
    rw [e',get_put,acg (H.ne hin (by omega) (by omega) ho ho' hd),nK,ach hne (H.ZW hin ho hd hqi m' (by omega) (by omega))]
    exact h2 i o t him hin ho hd hqi
end
def Cut (qs:Nat→Option Nat) (L:Array Bool) (q m:Nat):Prop:=(∀ j,j<m→qs j=some q→L.getD j false=true)∧∀ j,m≤j→qs j=some q→L.getD j false=false
structure AtA (all:Array Oper) (n:Nat) (Q:List Nat) (qs:Nat→Option Nat) (S:Nat→St) (s s':St) (L:Array Bool):Prop where
 size:L.size=all.size
 closed:∀ i o,L.getD i false=true→all[i]? = some o→∀ e∈o.after,am3 .any e=true→L.getD e.on false=true
 tail:∀ i,n≤i→L.getD i false=false
 sn:s'.n=s.n
 sv:s'.vars=s.vars
 sm:s'.maps=s.maps
 sg:s'.gs=s.gs
 Dl:∀ i,i∉Q→s'.row i=s.row i
 Il:∀ q m,q∈Q→m≤n→Cut qs L q m→s'.row q=(S m).row q
 Dn:∀ i o t,i<n→L.getD i false=true→all[i]? = some o→o.dst=some t→qs i=none→s'.get t=(S (i+1)).get t
 xG:∀ i o t q m,i<n→L.getD i false=true→all[i]? = some o→o.dst=some t→qs i=some q→i<m→m≤n→Cut qs L q m→s'.get t=(S m).get t
 rest:∀ t,(∀ i o,i<n→L.getD i false=true→all[i]? = some o→o.dst≠some t)→s'.get t=s.get t
structure acj (all:Array Oper) (n:Nat) (qs:Nat→Option Nat):Prop where
 sees:∀ j i o o' q t,j<n→i<n→all[j]? = some o→all[i]? = some o'→qs i=some q→t∈o.looksAt all→o'.dst=some t→qs j=some q∨(qs j=none∧∀ i',i<i'→qs i'≠some q)
 line:∀ j i q,j<n→i<j→qs i=some q→qs j=some q→((masks all.toList []).getD j 0).testBit i=true
theorem AtA.le {n:Nat} {Q:List Nat} {qs:Nat→Option Nat} {S:Nat→St} {L:Array Bool} (H:mG C all n Q qs s S) (A:AtA all n Q qs S s s' L) (hall:∀ i,i<n→L.getD i false=true):St.le s' (S n):=by
 obtain ⟨f1,f2,f3,f4⟩:=H.frame n (ael _)
 have hcut:∀ q,Cut qs L q n:=fun q=>⟨fun j hj _=>hall j hj,fun j hj hq=>by rw [H.top j hj] at hq; cases hq⟩
 refine ⟨f1.trans A.sn.symm,fun t=>?_,fun t cs h=>⟨cs,by simpa [St.var,f2,A.sv] using h,rfl,fun _ _=>.same _⟩,fun i r h=>?_,fun r m h=>by simpa [St.map,f3,A.sm] using h,fun t=>by simp only [St.eY,f4,A.sg]; exact .same _⟩
 ·by_cases c:∃ (i:Nat) (o:Oper),i<n∧all[i]? = some o∧o.dst=some t
  ·obtain ⟨i,o,hi,ho,hd⟩:=c
   cases hq:qs i with
   | none=>rw [A.Dn i o t hi (hall i hi) ho hd hq,← (H.ZV hi ho hd hq).2 n hi (ael _)]; exact .same _
   | some q=>rw [A.xG i o t q n hi (hall i hi) ho hd hq hi (ael _) (hcut q)]; exact .same _
  ·have c':∀ i o,i<n→all[i]? = some o→o.dst≠some t:=fun i o hi ho hd=>c ⟨i,o,hi,ho,hd⟩
   rw [H.rest n (ael _) c',A.rest t (fun i o hi _ ho=>c' i o hi ho)]; exact .same _
 ·by_cases hi:i∈Q
  ·rw [A.Il i n hi (ael _) (hcut i)]; exact h
  ·rw [A.Dl i hi,← H.rows hi n (ael _)]; exact h
theorem ZX (Q:List Nat) (s:St) (i:Nat):(s.hide Q).row i=if Q.contains i then none else s.row i:=wB Q i s.rows
theorem Xz {n:Nat} (D:Gm all n) {Q:List Nat} {qs:Nat→Option Nat} {S:Nat→St} (H:mG C all n Q qs s S) (O:acj all n qs) (hr:R C (.ops all (all.toList.drop n)::k) (S n)):
  ∀ (fuel:Nat) (L:Array Bool) (s':St) (a:Act) (w:World) (E:Env),AtA all n Q qs S s s' L→cnt L≤fuel→aC C s' a w E→wpAny C.P .any all (fin C k) fuel L a w:=by
 have ank:=D.le
 have hend:∀ (fuel:Nat) (L:Array Bool) (s':St) (a:Act) (w:World) (E:Env),AtA all n Q qs S s s' L→cnt L≤fuel→aC C s' a w E→(∀ i,i<n→L.getD i false=true)→wpAny C.P .any all (fin C k) fuel L a w:=by
  intro fuel L s' a w E A hcnt g hpure
  have hw:=hr a w E (g.weak (A.le H hpure))
  simp only [fin] at hw
  have hLd:∀ i,i<all.size→L.getD i false=decide (i<n):=by
   intro i hi
   by_cases c:i<n
   ·rw [hpure i c]; simp [c]
   ·rw [A.tail i (by omega)]; simp [c]
  have hc2:all.size - n≤cnt L:=by
   unfold cnt
   have e1:L.toList=L.toList.take n++L.toList.drop n:=(akR n _).symm
   rw [e1,apB]
   have e2:(L.toList.drop n).countP (fun b=>!b)=(L.toList.drop n).length:=by
    rw [ash]
    intro b hb
    obtain ⟨q,hq,rfl⟩:=aeF hb
    have Jz:n+q<L.size:=by simpa [Nat.lt_sub_iff_add_lt,aro] using hq
    have:=A.tail (n+q) (by omega)
    have h3:L.getD (n+q) false=L[n+q]:=by simp [Array.getD,Jz]
    simp only [apU,Array.getElem_toList]
    rw [← h3,this]; rfl
   rw [e2]
   have:=A.size
   simp; omega
  exact Jw D _ n L fuel a w (ael _) (by simp; omega) (fun j=>by simp) (by simp; omega) A.size hLd hw
 intro fuel
 induction fuel with
 | zero=>
  intro L s' a w E A hcnt g
  have hall:=O4 (Nat.le_zero.1 hcnt)
  exact hend 0 L s' a w E A hcnt g fun i hi=>hall i (by rw [A.size]; omega)
 | succ fuel ih=>
  intro L s' a w E A hcnt g
  by_cases hpure:∀ i,i<n→L.getD i false=true
  ·exact hend _ L s' a w E A hcnt g hpure
  ·have hex:∃ i,i<n∧L.getD i false=false:=by
    apply ari
    intro hno
    refine hpure fun i hi=>?_
    cases hb:L.getD i false with
    | true=>rfl
    | false=>exact (hno ⟨i,hi,hb⟩).elim
   obtain ⟨i0,⟨hi0,hf0⟩,hmin⟩:=exists_least (p:=fun i=>i<n∧L.getD i false=false) hex
   refine ⟨fun hnil=>?_,fun i hi=>?_⟩
   ·have hlt:i0<all.size:=by omega
    have ho0:all[i0]? = some all[i0]:=by simp [hlt]
    have:i0∈anX .any all L:=mem_ready.2 ⟨by rw [iF (by rw [A.size]; exact hlt)]; exact hf0,all[i0],ho0,fun e he hb=>by
     have hel:=D.edge i0 _ ho0 e he hb
     cases hb2:L.getD e.on false with
     | true=>rfl
     | false=>have:=hmin e.on ⟨by omega,hb2⟩; omega⟩
    rw [hnil] at this; cases this
   ·obtain ⟨hun,o,ho,hall⟩:=mem_ready.1 hi
    have hlt:=(acR.1 ho).1
    have KR:L.getD i false=false:=by rw [← iF (by rw [A.size]; exact hlt)]; exact hun
    have hin:i<n:=by
     rcases amR i n with h | h
     ·exact h
     ·have hbit:=D.tail i o h ho i0 (by omega)
      have:=(oM D A.closed A.size i o ho hall i0 hbit).1
      rw [hf0] at this; cases this
    have hset:∀ j,(L.setIfInBounds i true).getD j false=if j=i then true else L.getD j false:=by
     intro j
     by_cases c:j=i
     ·subst c; rw [acA rfl,oC (by rw [A.size]; exact hlt)]
     ·rw [acg c,getD_set_ne false (an2 c)]
    have hcl':∀ j o',(L.setIfInBounds i true).getD j false=true→all[j]? = some o'→∀ e∈o'.after,am3 .any e=true→(L.setIfInBounds i true).getD e.on false=true:=by
     intro j o' hj ho' e he hb
     rw [hset] at hj ⊢
     split
     ·rfl
     ·split at hj
      ·rename_i h; subst h; rw [ho] at ho'; cases ho'; exact hall e he hb
      ·exact A.closed j o' hj ho' e he hb
    have hfu:cnt (L.setIfInBounds i true)≤fuel:=by have:=TI (L:=L) (i:=i) (by rw [A.size]; exact hlt) KR; omega
    have hback:∀ q m,qs i≠some q→Cut qs (L.setIfInBounds i true) q m→Cut qs L q m:=by
     rintro q m hne ⟨h1,h2⟩
     refine ⟨fun j hj hq=>?_,fun j hj hq=>?_⟩
     ·have:=h1 j hj hq; rw [hset,acg (fun e:j=i=>hne (by rw [← e]; exact hq))] at this; exact this
     ·have:=h2 j hj hq; rw [hset,acg (fun e:j=i=>hne (by rw [← e]; exact hq))] at this; exact this
    have aeY:∀ t∈o.looksAt all,(∀ q,qs i=some q→Cut qs L q i)→s'.get t=(S i).get t:=by
     intro t ht hcut
     by_cases c:∃ (j:Nat) (o':Oper),j<n∧all[j]? = some o'∧o'.dst=some t
     ·obtain ⟨j,o',hjn,ho',hd'⟩:=c
      have hbit:=D.look i o hin ho t ht j o' hjn ho' hd'
      obtain ⟨XA,hji⟩:=oM D A.closed A.size i o ho hall j hbit
      cases hqj:qs j with
      | none=>rw [A.Dn j o' t (by omega) XA ho' hd' hqj,(H.ZV (by omega) ho' hd' hqj).2 i hji (by omega)]
      | some q=>
       rcases O.sees i j o o' q t hin (by omega) ho ho' hqj ht hd' with hqi | ⟨hqi,hlast⟩
       ·exact A.xG j o' t q i (by omega) XA ho' hd' hqj hji (by omega) (hcut q hqi)
       ·refine A.xG j o' t q i (by omega) XA ho' hd' hqj hji (by omega) ⟨fun j0 hj0 hq0=>?_,fun j0 hj0 hq0=>(hlast j0 (by omega) hq0).elim⟩
        rcases apV j0 j with h | rfl | h
        ·exact (oM D A.closed A.size j o' ho' (A.closed j o' XA ho') j0 (O.line j j0 q (by omega) h hq0 hqj)).1
        ·exact XA
        ·exact (hlast j0 h hq0).elim
     ·have c':∀ (j:Nat) (o':Oper),j<n→all[j]? = some o'→o'.dst≠some t:=fun j o' hj ho' hd'=>c ⟨j,o',hj,ho',hd'⟩
      rw [H.rest i (by omega) (fun j o' hj ho'=>c' j o' (by omega) ho'),A.rest t (fun j o' hj _ ho'=>c' j o' hj ho')]
    obtain ⟨f1,f2,f3,f4⟩:=H.frame i (by omega)
    rcases H.case hin ho with ⟨hqi,v,e,hY,hdo,anh⟩ | ⟨q,r,x,hqi,hq,e,hx,hA,hdo,hne⟩
    ·
     have hlook:∀ t∈o.looksAt all,s'.get t=(S i).get t:=fun t ht=>aeY t ht fun q h=>by rw [hqi] at h; cases h
     have hY1:YG C.dr C.P all { s' with rows:=((S i).hide Q).rows } o v:=hY.congr (s:=(S i).hide Q) (s':={ s' with rows:=((S i).hide Q).rows }) hlook (A.sv.trans f2.symm) rfl
     have hY':YG C.dr C.P all s' o v:=hY1.mono (s:={ s' with rows:=((S i).hide Q).rows }) (fun _=>rfl) rfl fun j r' hj=>by
      have hj:((S i).hide Q).row j=some r':=hj
      rw [ZX] at hj
      split at hj
      ·cases hj
      ·rename_i hc
       have hjQ:j∉Q:=fun h=>hc (by simpa using h)
       rw [A.Dl j hjQ,← H.rows hjQ i (by omega)]; exact hj
     have hd':bP s' o:=fun t ht=>by rw [A.sn,← f1]; exact hdo t ht
     refine YG.step g ho hd' hY' fun u w' E' g'=>?_
     refine ih _ (s'.put o.dst v) _ w' E' ?_ hfu g'
     obtain ⟨p1,p2,p3,p4⟩:=zI s' o.dst v
     exact {
      size:=by simpa using A.size
      closed:=hcl'
      tail:=fun j hj=>by rw [hset,acg (by omega)]; exact A.tail j hj
      sn:=p1.trans A.sn
      sv:=p2.trans A.sv
      sm:=p3.trans A.sm
      sg:=p4.trans A.sg
      Dl:=fun j hj=>by rw [qF]; exact A.Dl j hj
      Il:=fun q m hq hm hc=>by rw [qF]; exact A.Il q m hq hm (hback q m (by rw [hqi]; simp) hc)
      Dn:=fun j o' t hj hL ho' hd hqj=>by
       rw [get_put]
       rw [hset] at hL
       by_cases c:j=i
       ·subst c; rw [ho] at ho'; cases ho'; rw [acA hd,e,get_put,acA hd]
       ·rw [acg c] at hL
        rw [acg (H.ne hj hin c ho' ho hd)]
        exact A.Dn j o' t hj hL ho' hd hqj
      xG:=fun j o' t q m hj hL ho' hd hqj hjm hm hc=>by
       have c:j≠i:=fun e=>by rw [e,hqi] at hqj; cases hqj
       rw [hset,acg c] at hL
       rw [get_put,acg (H.ne hj hin c ho' ho hd)]
       exact A.xG j o' t q m hj hL ho' hd hqj hjm hm (hback q m (by rw [hqi]; simp) hc)
      rest:=fun t hno=>by
       rw [get_put,acg (hno i o hin (by rw [hset,acA rfl]) ho)]
       exact A.rest t fun j o' hj hL ho'=>hno j o' hj (by rw [hset]; split; rfl; exact hL) ho' }
    ·
     have hcut:Cut qs L q i:=by
      refine ⟨fun j hj hqj=>?_,fun j hj hqj=>?_⟩
      ·exact (oM D A.closed A.size i o ho hall j (O.line i j q hin hj hqj hqi)).1
      ·cases hb:L.getD j false with
       | false=>rfl
       | true=>
        by_cases c:j=i
        ·subst c; rw [KR] at hb; cases hb
        ·have hjn:j<n:=by
          rcases amR j n with h | h
          ·exact h
          ·rw [A.tail j h] at hb; cases hb
         obtain ⟨o',ho'⟩:=H.op hjn
         have hbit:=O.line j i q hjn (by omega) hqi hqj
         have:=(oM D A.closed A.size j o' ho' (A.closed j o' hb ho') i hbit).1
         rw [KR] at this; cases this
     have hlook:∀ t∈o.looksAt all,s'.get t=(S i).get t:=fun t ht=>aeY t ht fun q' h=>by rw [hqi] at h; cases h; exact hcut
     have hop:=R.aer (k:=k) (J:=fun st=>st=(s'.chain q r).put o.dst x) ho (hA s' (.aO (fun st=>st=(s'.chain q r).put o.dst x)::k) (A.sn.trans f1.symm) hlook (A.Il q i hq (by omega) hcut) (R.nil (R.aO rfl))) g
     refine wpOp_mono (fun a' w' h'=>?_) hop
     obtain ⟨_,E',rfl,g'⟩:=h'
     refine ih _ _ a' w' E' ?_ hfu g'
     have hc:=H.clean q hq
     obtain ⟨p1,p2,p3,p4⟩:=zI (s'.chain q r) o.dst x
     have hcq:∀ m,m≤n→Cut qs (L.setIfInBounds i true) q m→i<m∧((S m).row q=(S (i+1)).row q∧∀ j o' t,j<i+1→j<n→all[j]? = some o'→o'.dst=some t→qs j=some q→(S m).get t=(S (i+1)).get t):=by
      rintro m hm ⟨h1,h2⟩
      have him:i<m:=by
       rcases amR i m with h | h
       ·exact h
       ·have:=h2 i h hqi; rw [hset,acA rfl] at this; cases this
      refine ⟨him,H.still m (by omega) hm fun j hj hjm hqj=>?_⟩
      have h3:=h1 j hjm hqj
      rw [hset,acg (by omega)] at h3
      rw [hcut.2 j (by omega) hqj] at h3; cases h3
     exact {
      size:=by simpa using A.size
      closed:=hcl'
      tail:=fun j hj=>by rw [hset,acg (by omega)]; exact A.tail j hj
      sn:=p1.trans A.sn
      sv:=p2.trans (by show apO _ s'.vars=_; rw [A.sv]; exact hc.2.1)
      sm:=p3.trans A.sm
      sg:=p4.trans (by show apO _ s'.gs=_; rw [A.sg]; exact hc.2.2)
      Dl:=fun j hj=>by rw [qF,wC,acg (fun e:j=q=>hj (by rw [e]; exact hq))]; exact A.Dl j hj
      Il:=fun q' m hq' hm hcm=>by
       rw [qF,wC]
       by_cases c:q'=q
       ·subst c
        rw [acA rfl,(hcq m hm hcm).2.1,e,qF,wC,acA rfl]
       ·rw [acg c]
        exact A.Il q' m hq' hm (hback q' m (by rw [hqi]; intro h; cases h; exact c rfl) hcm)
      Dn:=fun j o' t hj hL ho' hd hqj=>by
       have c:j≠i:=fun e=>by rw [e,hqi] at hqj; cases hqj
       rw [hset,acg c] at hL
       rw [get_put,acg (H.ne hj hin c ho' ho hd),nK,A.Dn j o' t hj hL ho' hd hqj]
       exact (H.ZV hj ho' hd hqj).1 q hq
      xG:=fun j o' t q' m hj hL ho' hd hqj hjm hm hcm=>by
       by_cases c:j=i
       ·subst c
        rw [ho] at ho'; cases ho'
        rw [hqi] at hqj; cases hqj
        rw [(hcq m hm hcm).2.2 j o t (by omega) hj ho hd hqi,get_put,acA hd,e,get_put,acA hd]
       ·rw [hset,acg c] at hL
        rw [get_put,acg (H.ne hj hin c ho' ho hd),nK]
        by_cases cq:q'=q
        ·subst cq
         have hji:j<i:=by
          rcases amR j i with h | h
          ·exact h
          ·rw [hcut.2 j h hqj] at hL; cases hL
         rw [(hcq m hm hcm).2.2 j o' t (by omega) hj ho' hd hqj,e,get_put,acg (H.ne hj hin c ho' ho hd),nK,A.xG j o' t q' i hj hL ho' hd hqj hji (by omega) hcut]
        ·rw [A.xG j o' t q' m hj hL ho' hd hqj hjm hm (hback q' m (by rw [hqi]; intro h; cases h; exact cq rfl) hcm)]
         exact ach cq (H.ZW hj ho' hd hqj m hjm hm)
      rest:=fun t hno=>by
       rw [get_put,acg (hno i o hin (by rw [hset,acA rfl]) ho),nK,A.rest t fun j o' hj hL ho'=>hno j o' hj (by rw [hset]; split; rfl; exact hL) ho']
       exact hc.get t }
def ZY (all:Array Oper) (qs:List (Option Nat)):Bool:=
 (aeI qs.length).all fun j=>(aeI qs.length).all fun i=>match qs.getD i none,all[j]?,all[i]? with
  | some q,some o,some o'=>(qs.getD j none == some q || (qs.getD j none == none&&(aeI qs.length).all fun i'=>!decide (i<i') || qs.getD i' none != some q) || (match o'.dst with | some t=>!(o.looksAt all).contains t | none=>true))&&(!(qs.getD j none == some q) || !decide (i<j) || ((masks all.toList []).getD j 0).testBit i)
  | _,_,_=>true
theorem adt {qs:List (Option Nat)} (hs:qs.length≤all.size) (h:ZY all qs=true):acj all qs.length (fun i=>qs.getD i none):={
 sees:=fun j i o o' q t hj hi ho ho' hq ht hd=>by
  have h1:=(aeA.1 ((aeA.1 h) j (aoR.2 hj))) i (aoR.2 hi)
  simp only [hq,ho,ho',hd,aeC,Bool.or_eq_true,an0] at h1
  rcases h1.1 with (h2 | ⟨h2,h4⟩) | h2
  ·exact .inl h2
  ·refine .inr ⟨h2,fun i' hi' hq'=>?_⟩
   rcases amR i' qs.length with c | c
   ·have h5:=(aeA.1 h4) i' (aoR.2 c)
    simp only [hi',hq',amM,apR,ata,aqy] at h5
    cases h5
   ·simp [ab2,c] at hq'
  ·have h3:(o.looksAt all).contains t=true:=by simpa using ht
   rw [h3] at h2; cases h2
 line:=fun j i q hj hij hqi hqj=>by
  have h1:=(aeA.1 ((aeA.1 h) j (aoR.2 hj))) i (aoR.2 (by omega))
  have hoj:all[j]? = some all[j]:=by simp [show j<all.size by omega]
  have hoi:all[i]? = some all[i]:=by simp [show i<all.size by omega]
  simp only [hqi,hqj,hoj,hoi,aeC,Bool.or_eq_true] at h1
  rcases h1.2 with (h2 | h2) | h2
  ·simp at h2
  ·simp [hij] at h2
  ·exact h2 }
theorem Z4 (Q:List Nat) (qs:List (Option Nat)) (hB:BM all qs.length=true) (hA:ZY all qs=true) (hc:∀ q∈Q,Clean q s)
  (h:Jy C all Q (all.toList.drop qs.length) k ((all.toList.take qs.length).zip qs) s) {a:Act} {w:World} {E:Env} (g:aC C s a w E):wpAny C.P .any all (fin C k) all.size (aew all.size false) a { w with drawn:=w.drawn+1 }:=by
 have D:=MO hB
 obtain ⟨its,hl,hr,hy⟩:=Jy.unfold _ _ _ h
 have hle:=D.le
 have hlen:((all.toList.take qs.length).zip qs).length=qs.length:=by simp; omega
 have hmap:((all.toList.take qs.length).zip qs).map (·.1)=all.toList.take qs.length:=List.map_fst_zip (by simp; omega)
 rw [hmap] at hr hy
 rw [hlen] at hl
 have H:mG C all qs.length Q (fun i=>qs.getD i none) s (fun m=>Dk s (((all.toList.take qs.length).zip its).take m)):={
  zero:=rfl
  step:=fun i o hi ho=>by
   have h1:(all.toList.take qs.length)[i]? = some o:=by rw [anE,acA hi]; simpa using ho
   have h2:qs[i]? = some (qs.getD i none):=by rw [ab2,aeE hi]; rfl
   obtain ⟨it,h3,h4⟩:=hy i o _ (ato.2 ⟨h1,h2⟩)
   refine ⟨it,?_,h4⟩
   have h5:((all.toList.take qs.length).zip its)[i]? = some (o,it):=ato.2 ⟨h1,h3⟩
   show Dk s (List.take (i+1) _)=_
   rw [List.take_add_one,h5,G8]; rfl
  clean:=hc
  top:=fun i hi=>by simp [ab2,hi]
  size:=hle
  dist:=fun i j o o' t hi hj ho ho' hd hd'=>D.dist i j o o' t hi hj ho ho' hd hd' }
 have hr':R C (.ops all (all.toList.drop qs.length)::k) (Dk s (((all.toList.take qs.length).zip its).take qs.length)):=by
  rw [acw (by simp; omega)]; exact hr
 refine Xz D H (adt hle hA) hr' all.size (aew all.size false) s a _ E ?_ ?_ g.drew
 ·have hf:∀ i,(aew all.size false).getD i false=false:=fun i=>by simp [Array.getD]
  exact {
   size:=by simp
   closed:=fun i o hi=>by rw [hf] at hi; cases hi
   tail:=fun i _=>hf i
   sn:=rfl
   sv:=rfl
   sm:=rfl
   sg:=rfl
   Dl:=fun _ _=>rfl
   Il:=fun q m _ hm hcut=>((H.still m (apf _) hm fun j _ hj hq=>by have:=hcut.1 j hj hq; rw [hf] at this; cases this).1).symm
   Dn:=fun i o t _ hi=>by rw [hf] at hi; cases hi
   xG:=fun i o t q m _ hi=>by rw [hf] at hi; cases hi
   rest:=fun _ _=>rfl }
 ·unfold cnt; exact ahC aqE (by simp)
theorem Z5 (s:St):s.hide []=s:=by
 unfold St.hide
 rw [an1.2 (by simp)]
theorem RY.toA {tail:List Oper}:∀ (l:List Oper) (s:St),RY C all tail k l s→Jy C all [] tail k (l.map fun o=>(o,none)) s
 | [],_,h=>h
 | o::l,s,⟨v,h1,h2,h3⟩=>⟨v,by rwa [Z5],h2,fun q hq=>by simp at hq,RY.toA l _ h3⟩
theorem PO (n m:Nat) (hB:BM all n=true) (h:BH C all (all.toList.drop n) k m (all.toList.take n) s) {a:Act} {w:World} {E:Env} (g:aC C s a w E):wpAny C.P .any all (fin C k) all.size (aew all.size false) a { w with drawn:=w.drawn+1 }:=by
 have hle:=(MO hB).le
 have hl:(akW n (none:Option Nat)).length=n:=apM
 have hn:∀ i,(akW n (none:Option Nat)).getD i none=none:=fun i=>by
  rw [ab2,aow]; split <;> rfl
 have hz:(all.toList.take n).zip (akW n (none:Option Nat))=(all.toList.take n).map fun o=>(o,none):=by
  apply akV
  ·simp
  ·intro i h1 h2; simp
 refine Z4 [] (akW n none) (by rw [hl]; exact hB) ?_ (fun q hq=>by simp at hq) ?_ g
 ·unfold ZY
  simp only [hn,aeA,atx]
 ·rw [hl,hz]
  exact RY.toA _ _ (bg m _ s h)
theorem R.dB {id:Nat} (n m:Nat) (hm:C.P.follows .mixedOrders=true) (hB:BM all n=true) (h:BH C all (all.toList.drop n) k m (all.toList.take n) s):R C (.code (.region id all true)::k) s:=fun _ _ _ g=>wp_region_any hm (PO n m hB h g)
end
end Go.au
end
section
namespace Go.Proofs.Z
structure W where
 pos:List Int
 neg:List Int
deriving DecidableEq
def dh (a b:Int):Int:=if a<b then -1 else if b<a then 1 else 0
def G9 (l:List Int):Int:=(l.find? (· != 0)).getD 0
def cmpL:List Int→List Int→Int
 | [],[]=>0
 | [],_::_=>-1
 | _::_,[]=>1
 | x::l,y::m=>if dh x y≠0 then dh x y else cmpL l m
def vC (a b:W):Int:=G9 [cmpL a.pos b.pos,cmpL a.neg b.neg]
def dG (w:W):Int:=((w.pos.length+w.neg.length:Nat):Int)
def Io (a b:W):Int:=G9 [dG a - dG b,vC a b]
def dS (set:List Int) (w:W):Bool:=!w.neg.any (set.contains ·)&&w.pos.all (set.contains ·)
theorem wS {α:Type} {lt:α→α→Prop} (asymm:∀ a b,lt a b→lt b a→False):∀ {l m:List α},l.Pairwise lt→m.Pairwise lt→(∀ x,x∈l↔x∈m)→l=m
 | [],[],_,_,_=>rfl
 | [],y::m,_,_,h=>by have:=(h y).2 (by simp); simp at this
 | x::l,[],_,_,h=>by have:=(h x).1 (by simp); simp at this
 | x::l,y::m,hl,hm,h=>by
  rw [aob] at hl hm
  have e:x=y:=by
   have h1:=(h x).1 (by simp)
   have h2:=(h y).2 (by simp)
   rw [ae1] at h1 h2
   rcases h1 with h1 | h1
   ·exact h1
   ·rcases h2 with h2 | h2
    ·exact h2.symm
    ·exact (asymm _ _ (hl.1 y h2) (hm.1 x h1)).elim
  subst e
  congr 1
  refine wS asymm hl.2 hm.2 fun z=>⟨fun hz=>?_,fun hz=>?_⟩
  ·have:=(h z).1 (by simp [hz])
   rw [ae1] at this
   rcases this with rfl | h'
   ·exact (asymm _ _ (hl.1 z hz) (hl.1 z hz)).elim
   ·exact h'
  ·have:=(h z).2 (by simp [hz])
   rw [ae1] at this
   rcases this with rfl | h'
   ·exact (asymm _ _ (hm.1 z hz) (hm.1 z hz)).elim
   ·exact h'
def uF {α:Type} (c:α→α→Int) (x:α):List α→List α
 | []=>[x]
 | y::l=>if c x y<0 then x::y::l else if c x y=0 then y::l else y::uF c x l
def ni {α:Type} (c:α→α→Int) (l:List α):List α:=l.foldr (uF c) []
structure Order {α:Type} (c:α→α→Int):Prop where
 eq:∀ a b,c a b=0↔a=b
 flip:∀ a b,c a b<0↔0<c b a
 trans:∀ a b d,c a b<0→c b d<0→c a d<0
theorem Order.asymm {α:Type} {c:α→α→Int} (h:Order c) (a b:α) (h1:c a b<0) (h2:c b a<0):False:=by
 have:=(h.flip a b).1 h1; omega
theorem EI {α:Type} {c:α→α→Int} (h:Order c) (x z:α):∀ l,z∈uF c x l↔z=x∨z∈l
 | []=>by simp [uF]
 | y::l=>by
  simp only [uF]
  split
  ·simp
  ·split
   ·rename_i e; have:=(h.eq x y).1 e; subst this
    simp only [ae1]; constructor
    ·rintro (h | h) <;> simp [h]
    ·rintro (h | h | h) <;> simp [h]
   ·simp only [ae1,EI h x z l]; constructor
    ·rintro (h | h | h) <;> simp [h]
    ·rintro (h | h | h) <;> simp [h]
theorem EJ {α:Type} {c:α→α→Int} (h:Order c) (x:α):∀ {l},l.Pairwise (fun a b=>c a b<0)→(uF c x l).Pairwise (fun a b=>c a b<0)
 | [],_=>by simp [uF]
 | y::l,hl=>by
  have hl':=hl
  rw [aob] at hl
  simp only [uF]
  split
  ·rename_i hlt
   rw [aob]
   refine ⟨fun z hz=>?_,hl'⟩
   rw [ae1] at hz
   rcases hz with rfl | hz
   ·exact hlt
   ·exact h.trans _ _ _ hlt (hl.1 z hz)
  ·split
   ·exact hl'
   ·rename_i h1 h2
    rw [aob]
    refine ⟨fun z hz=>?_,EJ h x hl.2⟩
    rw [EI h] at hz
    rcases hz with rfl | hz
    ·exact (h.flip _ _).2 (by omega)
    ·exact hl.1 z hz
theorem qG {α:Type} {c:α→α→Int} (h:Order c) (z:α):∀ l,z∈ni c l↔z∈l
 | []=>by simp [ni]
 | x::l=>by
  have ih:=qG h z l
  simp only [ni,List.foldr_cons,EI h,ae1] at ih ⊢
  rw [ih]
theorem lJ {α:Type} {c:α→α→Int} (h:Order c):∀ l,(ni c l).Pairwise (fun a b=>c a b<0)
 | []=>by simp [ni]
 | x::l=>EJ h x (lJ h l)
theorem wU {α:Type} {c:α→α→Int} (h:Order c) {l m:List α} (hm:m.Pairwise (fun a b=>c a b<0)) (hx:∀ x,x∈m↔x∈l):m=ni c l:=
 wS (fun a b h1 h2=>h.asymm a b h1 h2) hm (lJ h l) fun x=>by rw [hx,qG h]
theorem dD:Order dh where
 eq a b:=by unfold dh; split <;> (try split) <;> omega
 flip a b:=by unfold dh; split <;> (try split) <;> (try split) <;> (try split) <;> omega
 trans a b d:=by unfold dh; intro h1 h2; split at h1 <;> (try split at h1) <;> split at h2 <;> (try split at h2) <;> first | omega | (rw [acA (by omega)]; omega) | rw [acA (by omega)]
theorem lV:Order cmpL where
 eq:=by
  intro a
  induction a with
  | nil=>intro b; cases b <;> simp [cmpL]
  | cons x l ih=>
   intro b
   cases b with
   | nil=>simp [cmpL]
   | cons y m=>
    simp only [cmpL,ab1]
    split
    ·rename_i h; constructor
     ·intro h'; exact (h h').elim
     ·rintro ⟨rfl,_⟩; exact (h ((dD.eq _ _).2 rfl)).elim
    ·rename_i h
     have h:dh x y=0:=by simpa using h
     rw [ih]; have:=(dD.eq x y).1 h; simp [this]
 flip:=by
  intro a
  induction a with
  | nil=>intro b; cases b <;> simp [cmpL]
  | cons x l ih=>
   intro b
   cases b with
   | nil=>simp [cmpL]
   | cons y m=>
    simp only [cmpL]
    by_cases h:dh x y=0
    ·have e:=(dD.eq x y).1 h; subst e
     have h0:dh x x=0:=h
     simp only [h0,ne_eq,apo,akS]; exact ih m
    ·have h':dh y x≠0:=fun e=>h ((dD.eq x y).2 ((dD.eq y x).1 e).symm)
     rw [acA h,acA h']; exact dD.flip x y
 trans:=by
  intro a
  induction a with
  | nil=>
   intro b d h1 h2
   cases d with
   | nil=>cases b <;> simp [cmpL] at h1 h2
   | cons z n=>simp [cmpL]
  | cons x l ih=>
   intro b d h1 h2
   cases b with
   | nil=>simp [cmpL] at h1
   | cons y m=>
    cases d with
    | nil=>simp [cmpL] at h2
    | cons z n=>
     simp only [cmpL] at h1 h2 ⊢
     by_cases hxy:dh x y=0
     ·have e:=(dD.eq x y).1 hxy; subst e
      rw [acg (by simpa using hxy)] at h1
      by_cases hxz:dh x z=0
      ·rw [acg (by simpa using hxz)] at h2 ⊢; exact ih _ _ h1 h2
      ·rw [acA hxz] at h2 ⊢; exact h2
     ·rw [acA hxy] at h1
      by_cases hyz:dh y z=0
      ·have e:=(dD.eq y z).1 hyz; subst e
       rw [acA hxy]; exact h1
      ·rw [acA hyz] at h2
       have h3:=dD.trans _ _ _ h1 h2
       rw [acA (by omega)]; exact h3
theorem TU (a b:Int):G9 [a,b]=if a=0 then b else a:=by
 unfold G9
 by_cases h:a=0
 ·by_cases h2:b=0
  ·simp [awz,h,h2]
  ·simp [awz,h,show (b != 0)=true by simpa using h2]
 ·simp [awz,h,show (a != 0)=true by simpa using h]
theorem Dp {α:Type} {c d:α→α→Int} (c0:∀ a,c a a=0) (cf:∀ a b,c a b<0↔0<c b a) (ct:∀ a b e,c a b<0→c b e<0→c a e<0) (ce:∀ a b e,c a b=0→(c a e=c b e∧c e a=c e b))
  (de:∀ a b,c a b=0→(d a b=0↔a=b)) (df:∀ a b,d a b<0↔0<d b a) (dt:∀ a b e,d a b<0→d b e<0→d a e<0):Order (fun a b=>if c a b=0 then d a b else c a b) where
 eq a b:=by
  constructor
  ·intro h
   by_cases h0:c a b=0
   ·rw [acA h0] at h; exact (de a b h0).1 h
   ·rw [acg h0] at h; exact (h0 h).elim
  ·rintro rfl; rw [acA (c0 a)]; exact (de a a (c0 a)).2 rfl
 flip a b:=by
  have h1:=cf a b; have h2:=cf b a
  by_cases h0:c a b=0
  ·have h0':c b a=0:=by omega
   rw [acA h0,acA h0']; exact df a b
  ·have h0':c b a≠0:=by omega
   rw [acg h0,acg h0']; exact h1
 trans a b e h1 h2:=by
  by_cases ab:c a b=0
  ·rw [acA ab] at h1
   have:=(ce a b e ab).1
   by_cases be:c b e=0
   ·rw [acA be] at h2; rw [acA (by omega)]; exact dt _ _ _ h1 h2
   ·rw [acg be] at h2; rw [acg (by omega)]; omega
  ·rw [acg ab] at h1
   by_cases be:c b e=0
   ·have:=(ce b e a be).2
    rw [acg (by omega)]; omega
   ·rw [acg be] at h2
    have:=ct _ _ _ h1 h2
    rw [acg (by omega)]; exact this
theorem adu:vC=fun a b=>if cmpL a.pos b.pos=0 then cmpL a.neg b.neg else cmpL a.pos b.pos:=by funext a b; exact TU _ _
theorem jd:Order vC:=by
 rw [adu]
 refine Dp (c:=fun a b:W=>cmpL a.pos b.pos) (d:=fun a b:W=>cmpL a.neg b.neg) (fun a=>(lV.eq _ _).2 rfl) (fun a b=>lV.flip _ _) (fun a b e=>lV.trans _ _ _) (fun a b e h=>?_) (fun a b h=>?_) (fun a b=>lV.flip _ _) (fun a b e=>lV.trans _ _ _)
 ·have:=(lV.eq _ _).1 h; simp [this]
 ·have h:=(lV.eq _ _).1 h
  rw [lV.eq]; cases a; cases b; simp at h ⊢; simp [h]
theorem TW:Io=fun a b=>if dG a - dG b=0 then vC a b else dG a - dG b:=by funext a b; exact TU _ _
theorem U1:Order Io:=by
 rw [TW]
 refine Dp (c:=fun a b:W=>dG a - dG b) (d:=vC) (fun a=>by omega) (fun a b=>by omega) (fun a b e=>by omega) (fun a b e h=>by omega) (fun a b h=>jd.eq a b) jd.flip jd.trans
def qR (l:List Int):List Int:=ni dh l
theorem Ip (x:Int) (l:List Int):x∈qR l↔x∈l:=qG dD x l
theorem PS (a b:Int):dh a b<0↔a<b:=by unfold dh; split <;> (try split) <;> omega
theorem qZ (l:List Int):(qR l).Pairwise (· < ·):=(lJ dD l).imp fun h=>(PS _ _).1 h
theorem He {l m:List Int} (hm:m.Pairwise (· < ·)) (hx:∀ x,x∈m↔x∈l):m=qR l:=wU dD (hm.imp fun h=>(PS _ _).2 h) hx
theorem MP {l:List Int} (h:l.Pairwise (· < ·)):qR l=l:=(He h fun _=>Iff.rfl).symm
def jK (w:W):W:=⟨qR w.pos,qR w.neg⟩
def Gn (w:W):Bool:=!w.pos.any (w.neg.contains ·)
def gJ (a b:W):Bool:=a.pos.all (b.pos.contains ·)&&a.neg.all (b.neg.contains ·)
def dY (l:List W):List W:=(l.map jK).filter Gn
def U2 (l:List W) (x:W):Bool:=l.all fun y=>!gJ y x || y == x
def bM (l:List W):List W:=ni vC ((dY l).filter (U2 (dY l)))
def Norm (w:W):Prop:=w.pos.Pairwise (· < ·)∧w.neg.Pairwise (· < ·)
theorem U3 (w:W):Norm (jK w):=⟨qZ _,qZ _⟩
theorem lW {l:List W} {x:W} (h:x∈dY l):Norm x:=by
 simp only [dY,amP,acL] at h
 obtain ⟨⟨w,_,rfl⟩,_⟩:=h; exact U3 w
theorem JA {w:W} (h:Norm w):jK w=w:=by cases w; simp [jK,MP h.1,MP h.2]
theorem zJ (a b:W):gJ a b=true↔(∀ x∈a.pos,x∈b.pos)∧(∀ x∈a.neg,x∈b.neg):=by
 simp [gJ,aeA]
theorem PU (l:List W) (x:W):U2 l x=true↔∀ y∈l,gJ y x=true→y=x:=by
 simp only [U2,aeA,Bool.or_eq_true,aok,an0]
 constructor
 ·intro h y hy hp; rcases h y hy with h | h
  ·rw [hp] at h; cases h
  ·exact h
 ·intro h y hy
  cases hp:gJ y x with
  | false=>exact .inl rfl
  | true=>exact .inr (h y hy hp)
theorem pK (l:List W) (x:W):x∈bM l↔x∈dY l∧∀ y∈dY l,gJ y x=true→y=x:=by
 rw [bM,qG jd,amP,PU]
theorem AL {l m:List W} (hm:m.Pairwise (fun a b=>vC a b<0)) (hx:∀ x,x∈m↔x∈dY l∧∀ y∈dY l,gJ y x=true→y=x):m=bM l:=
 wU jd hm fun x=>by rw [hx,amP,PU]
theorem U4 {l m:List W} (h:∀ x,x∈dY l↔x∈dY m):bM l=bM m:=by
 refine AL (lJ jd _) fun x=>?_
 show x∈bM l↔_
 rw [pK,h]
 constructor
 ·rintro ⟨h1,h2⟩; exact ⟨h1,fun y hy=>h2 y ((h y).2 hy)⟩
 ·rintro ⟨h1,h2⟩; exact ⟨h1,fun y hy=>h2 y ((h y).1 hy)⟩
theorem AO {a b c:W} (h1:gJ a b=true) (h2:gJ b c=true):gJ a c=true:=by
 rw [zJ] at *; exact ⟨fun x hx=>h2.1 x (h1.1 x hx),fun x hx=>h2.2 x (h1.2 x hx)⟩
theorem xH (a:W):gJ a a=true:=by rw [zJ]; exact ⟨fun _ h=>h,fun _ h=>h⟩
theorem Gp:∀ {l m:List Int},l.Pairwise (· < ·)→m.Pairwise (· < ·)→(∀ x∈l,x∈m)→l.length≤m.length∧(l.length=m.length→l=m)
 | [],m,_,_,_=>by
  refine ⟨by simp,fun h=>?_⟩
  cases m with
  | nil=>rfl
  | cons _ _=>simp at h
 | x::l,[],_,_,h=>by have:=h x (by simp); simp at this
 | x::l,y::m,hl,hm,h=>by
  have hl0:=hl; have hm0:=hm
  rw [aob] at hl hm
  by_cases e:x=y
  ·subst e
   have ih:=Gp hl.2 hm.2 (fun z hz=>by
    have:=h z (by simp [hz])
    rw [ae1] at this
    rcases this with rfl | h'
    ·have:=hl.1 z hz; omega
    ·exact h')
   refine ⟨by simp; omega,fun h'=>?_⟩
   rw [ih.2 (by simpa using h')]
  ·have hy:y<x:=by
    have:=h x (by simp)
    rw [ae1] at this
    rcases this with rfl | h'
    ·exact (e rfl).elim
    ·exact hm.1 x h'
   have ih:=Gp hl0 hm.2 (fun z hz=>by
    have:=h z hz
    rw [ae1] at this
    rcases this with rfl | h'
    ·rw [ae1] at hz
     rcases hz with rfl | hz
     ·omega
     ·have:=hl.1 z hz; omega
    ·exact h')
   refine ⟨by simp only [aey] at *; omega,fun h'=>?_⟩
   have:=ih.1
   simp only [aey] at *; omega
theorem uG {a b:W} (ha:Norm a) (hb:Norm b) (h:gJ a b=true):dG a≤dG b∧(dG a=dG b→a=b):=by
 rw [zJ] at h
 have h1:=Gp ha.1 hb.1 h.1
 have h2:=Gp ha.2 hb.2 h.2
 unfold dG
 refine ⟨by omega,fun e=>?_⟩
 cases a; cases b
 simp only [W.mk.injEq]
 exact ⟨h1.2 (by omega),h2.2 (by omega)⟩
theorem MQ {l:List W}:∀ (n:Nat) {x:W},dG x≤n→x∈dY l→∃ y∈bM l,gJ y x=true
 | 0,x,hn,hx=>by
  refine ⟨x,(pK l x).2 ⟨hx,fun y hy hp=>?_⟩,xH x⟩
  have:=uG (lW hy) (lW hx) hp
  exact this.2 (by unfold dG at *; omega)
 | n+1,x,hn,hx=>by
  by_cases h:∀ y∈dY l,gJ y x=true→y=x
  ·exact ⟨x,(pK l x).2 ⟨hx,h⟩,xH x⟩
  ·simp only [Classical.not_forall] at h
   obtain ⟨y,hy,hp,hne⟩:=h
   have:=uG (lW hy) (lW hx) hp
   obtain ⟨z,hz,hzp⟩:=MQ n (x:=y) (by
    have:dG y≠dG x:=fun e=>hne (this.2 e)
    omega) hy
   exact ⟨z,hz,AO hzp hp⟩
theorem gK (set:List Int) (w:W):dS set w=true↔(∀ x∈w.neg,x∉set)∧∀ x∈w.pos,x∈set:=by
 simp [dS,anN,aeA]
theorem AP (set:List Int) (w:W):dS set (jK w)=dS set w:=by
 rw [anV,gK,gK]; simp [jK,Ip]
theorem Sj {set:List Int} {w:W} (h:dS set w=true):Gn w=true:=by
 rw [gK] at h
 simp only [Gn,aok,anN,aqH]
 intro x hx hn; exact h.1 x hn (h.2 x hx)
theorem Sl {set:List Int} {a b:W} (hp:gJ a b=true) (h:dS set b=true):dS set a=true:=by
 rw [gK] at *; rw [zJ] at hp
 exact ⟨fun x hx=>h.1 x (hp.2 x hx),fun x hx=>h.2 x (hp.1 x hx)⟩
theorem XB (set:List Int) (l:List W):(bM l).any (dS set)=l.any (dS set):=by
 rw [anV,aoz,aoz]
 constructor
 ·rintro ⟨x,hx,h⟩
  have:=((pK l x).1 hx).1
  simp only [dY,amP,acL] at this
  obtain ⟨⟨w,hw,rfl⟩,_⟩:=this
  exact ⟨w,hw,by rwa [AP] at h⟩
 ·rintro ⟨w,hw,h⟩
  have hn:jK w∈dY l:=by
   simp only [dY,amP,acL]
   exact ⟨⟨w,hw,rfl⟩,Sj (set:=set) (by rwa [AP])⟩
  obtain ⟨y,hy,hp⟩:=MQ (dG (jK w)).toNat (x:=jK w) (by unfold dG; omega) hn
  exact ⟨y,hy,Sl hp (by rwa [AP])⟩
theorem Z7 {l m:List W} (h:∀ x,x∈l↔x∈m):bM l=bM m:=U4 fun x=>by simp only [dY,amP,acL,h]
theorem JB (l:List W) (x:W):x∈dY (bM l)↔x∈bM l:=by
 simp only [dY,amP,acL]
 constructor
 ·rintro ⟨⟨w,hw,rfl⟩,_⟩
  rw [JA (lW ((pK l w).1 hw).1)]; exact hw
 ·intro h
  have h1:=((pK l x).1 h).1
  refine ⟨⟨x,h,JA (lW h1)⟩,?_⟩
  simp only [dY,amP] at h1; exact h1.2
theorem XC (l:List W):bM (bM l)=bM l:=by
 refine (AL (lJ jd _) fun x=>?_).symm
 show x∈bM l↔_
 rw [JB]
 constructor
 ·intro h; exact ⟨h,fun y hy hp=>((pK l x).1 h).2 y ((pK l y).1 ((JB l y).1 hy)).1 hp⟩
 ·exact fun h=>h.1
def keepW (out:List W):List W→List W
 | []=>out
 | w::l=>keepW (if out.any (gJ · w) then out else out++[w]) l
theorem Dq:∀ (l done out:List W),(∀ x∈done++l,Norm x)→(done++l).Pairwise (fun a b=>Io b a<0→False) →
  (∀ x,x∈out↔x∈done∧∀ y∈done,gJ y x=true→y=x)→out.Nodup →
  (keepW out l).Nodup∧∀ x,x∈keepW out l↔x∈done++l∧∀ y∈done++l,gJ y x=true→y=x
 | [],done,out,_,_,h,hn=>by simpa [keepW] using ⟨hn,h⟩
 | w::l,done,out,JC,hs,h,hn=>by
  have e:done++w::l=(done++[w])++l:=by simp
  rw [e] at JC hs ⊢
  have hw:Norm w:=JC w (by simp)
  have hdone:∀ x∈done,Norm x:=fun x hx=>JC x (by simp [hx])
  have hord:∀ x∈done,Io w x<0→False:=by
   intro x hx
   rw [asx] at hs
   have:=(asx.1 hs.1).2.2 x hx w (by simp)
   exact this
  have hle:∀ x∈done,dG x≤dG w:=by
   intro x hx
   by_cases c:dG w<dG x
   ·exact (hord x hx (by rw [TW]; simp only; rw [acg (by omega)]; omega)).elim
   ·omega
  have hback:∀ x∈done,gJ w x=true→w=x:=by
   intro x hx hp
   have h1:=uG hw (hdone x hx) hp
   exact h1.2 (by have:=hle x hx; omega)
  have hbelow:∀ (n:Nat) (x:W),dG x≤n→x∈done→∃ y∈out,gJ y x=true:=by
   intro n
   induction n with
   | zero=>
    intro x hx0 hx
    refine ⟨x,(h x).2 ⟨hx,fun y hy hp=>?_⟩,xH x⟩
    have h1:=uG (hdone y hy) (hdone x hx) hp
    exact h1.2 (by have:=h1.1; unfold dG at *; omega)
   | succ n ih=>
    intro x hxn hx
    by_cases hc:∀ y∈done,gJ y x=true→y=x
    ·exact ⟨x,(h x).2 ⟨hx,hc⟩,xH x⟩
    ·simp only [Classical.not_forall] at hc
     obtain ⟨y,hy,hp,hne⟩:=hc
     have h1:=uG (hdone y hy) (hdone x hx) hp
     obtain ⟨z,hz,hzp⟩:=ih y (by have:dG y≠dG x:=fun e=>hne (h1.2 e)
                                 omega) hy
     exact ⟨z,hz,AO hzp hp⟩
  rw [keepW]
  by_cases hany:out.any (gJ · w)=true
  ·rw [acA hany]
   refine Dq l (done++[w]) out JC hs (fun x=>?_) hn
   rw [aoz] at hany
   obtain ⟨z,hz,hzp⟩:=hany
   have hzd:=(h z).1 hz
   rw [h]
   constructor
   ·rintro ⟨h1,h2⟩
    refine ⟨by simp [h1],fun y hy hp=>?_⟩
    simp only [agS,adh] at hy
    rcases hy with hy | rfl
    ·exact h2 y hy hp
    ·exact hback x h1 hp
   ·rintro ⟨h1,h2⟩
    simp only [agS,adh] at h1
    rcases h1 with h1 | rfl
    ·exact ⟨h1,fun y hy=>h2 y (by simp [hy])⟩
    ·have:=h2 z (by simp [hzd.1]) hzp
     subst this
     exact hzd
  ·rw [acg hany]
   have hany:out.any (gJ · w)=false:=by simpa using hany
   rw [anN] at hany
   have hnew:w∉done:=by
    intro hwd
    obtain ⟨y,hy,hp⟩:=hbelow (dG w).toNat w (by unfold dG; omega) hwd
    exact hany y hy hp
   refine Dq l (done++[w]) (out++[w]) JC hs (fun x=>?_) ?_
   ·simp only [agS,adh]
    rw [h]
    constructor
    ·rintro (⟨h1,h2⟩ | rfl)
     ·refine ⟨.inl h1,fun y hy hp=>?_⟩
      rcases hy with hy | rfl
      ·exact h2 y hy hp
      ·exact hback x h1 hp
     ·refine ⟨.inr rfl,fun y hy hp=>?_⟩
      rcases hy with hy | rfl
      ·obtain ⟨z,hz,hzp⟩:=hbelow (dG y).toNat y (by unfold dG; omega) hy
       exact (hany z hz (AO hzp hp)).elim
      ·rfl
    ·rintro ⟨h1,h2⟩
     rcases h1 with h1 | rfl
     ·exact .inl ⟨h1,fun y hy=>h2 y (.inl hy)⟩
     ·exact .inr rfl
   ·rw [anM]
    refine ⟨hn,by simp,fun a ha b hb=>?_⟩
    simp only [adh] at hb
    subst hb
    rintro rfl
    exact hnew ((h a).1 ha).1
end Go.Proofs.Z
end
