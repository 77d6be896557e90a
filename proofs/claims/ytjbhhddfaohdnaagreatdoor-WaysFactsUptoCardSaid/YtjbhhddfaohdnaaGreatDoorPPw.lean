/- A part of the proof. -/
import Derived.Test.YtjbhhddfaohdnaaGreatDoorPGd
set_option linter.all false
set_option linter.deprecated false
open Array renaming replicate→afQ
open Function renaming comp→arV
open Go.Region renaming binds→apr,ready→aqj
open List renaming range→agi,length_cons→afM,map→asq,getElem?_zip_eq_some→avY,length→af0,replicate→am9,find?→ay9
open Option renaming map_some→ajr,getD_some→agd
section
namespace Go.au
def SV.ren (f:Nat→Nat):SV→SV
 | .aG t o=>.aG (f t) o
 | .own i=>.own (f i)
 | .iJ i k o=>.iJ (f i) k o
 | .view i k=>.view (f i) k
 | .clo g ts=>.clo g (ts.map f)
 | .gd c v=>.gd c (v.ren f)
 | .kT t v=>.kT t (v.ren f)
 | .box _=>.dead
 | v=>v
def SV.good (f inv:Nat→Nat):SV→Bool
 | .aG t _=>inv (f t) == t
 | .own i=>inv (f i) == i
 | .iJ i _ _=>inv (f i) == i
 | .view i _=>inv (f i) == i
 | .clo _ ts=>ts.all fun t=>inv (f t) == t
 | .gd _ v=>v.good f inv
 | .kT _ v=>v.good f inv
 | _=>true
def D8 (f:Nat→Nat):List (Nat × SV)→List (Nat × SV)
 | []=>[]
 | (t,v)::l=>(t,v.ren f)::D8 f l
def D9 (f:Nat→Nat):List (Nat × List SV)→List (Nat × List SV)
 | []=>[]
 | (t,c)::l=>(f t,c.map (SV.ren f))::D9 f l
def Ea (f:Nat→Nat):List (Nat × Row)→List (Nat × Row)
 | []=>[]
 | (t,r)::l=>(f t,r)::Ea f l
def Eb (f inv:Nat→Nat):List (Nat × SV)→Bool
 | []=>true
 | (_,v)::l=>v.good f inv&&Eb f inv l
def sN (f inv:Nat→Nat):List SV→Bool
 | []=>true
 | v::l=>v.good f inv&&sN f inv l
def yH (f inv:Nat→Nat):List (Nat × List SV)→Bool
 | []=>true
 | (t,c)::l=>inv (f t) == t&&sN f inv c&&yH f inv l
def yI (f inv:Nat→Nat):List (Nat × Row)→Bool
 | []=>true
 | (t,_)::l=>inv (f t) == t&&yI f inv l
theorem Df (f:Nat→Nat) (t:Nat):∀ l,lk t (D8 f l)=(lk t l).map (SV.ren f)
 | []=>rfl
 | (j,v)::l=>by simp only [D8,lk]; split <;> simp [Df f t l]
theorem MZ (f inv:Nat→Nat) (j:Nat) (y:List SV):∀ l,yH f inv l=true→lk j (D9 f l)=some y→∃ x,lk (inv j) l=some x∧y=x.map (SV.ren f)∧f (inv j)=j∧sN f inv x=true
 | [],_,h=>by simp [D9,lk] at h
 | (t,c)::l,hg,h=>by
  simp only [yH,af5,aqc] at hg
  simp only [D9,lk] at h
  split at h
  ·rename_i e; cases h; subst e; rw [hg.1.1]; exact ⟨c,by simp [lk],rfl,rfl,hg.1.2⟩
  ·rename_i hne
   obtain ⟨x,h1,h2,h3,h4⟩:=MZ f inv j y l hg.2 h
   refine ⟨x,?_,h2,h3,h4⟩
   rw [lk,adt (fun e=>hne (by rw [e]; exact h3))]; exact h1
theorem Na (f inv:Nat→Nat) (j:Nat) (y:Row):∀ l,yI f inv l=true→lk j (Ea f l)=some y→lk (inv j) l=some y∧f (inv j)=j
 | [],_,h=>by simp [Ea,lk] at h
 | (t,c)::l,hg,h=>by
  simp only [yI,af5,aqc] at hg
  simp only [Ea,lk] at h
  split at h
  ·rename_i e; cases h; subst e; rw [hg.1]; exact ⟨by simp [lk],rfl⟩
  ·rename_i hne
   obtain ⟨h1,h3⟩:=Na f inv j y l hg.2 h
   exact ⟨by rw [lk,adt (fun e=>hne (by rw [e]; exact h3))]; exact h1,h3⟩
theorem FM {f inv:Nat→Nat}:∀ {l:List (Nat × SV)},Eb f inv l=true→∀ t x,lk t l=some x→x.good f inv=true
 | [],_,_,_,h=>by simp [lk] at h
 | (j,v)::l,hg,t,x,h=>by
  simp only [Eb,af5] at hg
  simp only [lk] at h
  split at h
  ·cases h; exact hg.1
  ·exact FM hg.2 t x h
theorem Oi {f inv:Nat→Nat}:∀ {l:List SV},sN f inv l=true→∀ j,(l.getD j .dead).good f inv=true
 | [],_,j=>by simp [SV.good]
 | v::l,hg,0=>by simp only [sN,af5] at hg; simpa using hg.1
 | v::l,hg,j+1=>by simp only [sN,af5] at hg; simpa using Oi hg.2 j
theorem BM {P:Program} {s:St}:∀ {rv:List ResultVar} {p:Prop × List PD},resD P s rv=some p→p.2.length=rv.length
 | [],p,h=>by simp only [resD,ad2] at h; subst h; rfl
 | .tmp t::l,p,h=>by
  simp only [resD] at h
  split at h
  ·rename_i h2; simp only [ad2] at h; subst h; have:=BM h2; simpa using this
  ·cases h
 | .cell t ty::l,p,h=>by
  simp only [resD] at h
  split at h
  ·rename_i h2; simp only [ad2] at h; subst h; have:=BM h2; simpa using this
  ·cases h
section
variable {C:Cx} {s:St} {a:Act} {w w':World} {E:Env} {P:Program} {k:List KI} {all:Array Oper} {l:List Oper} {o:Oper}
theorem Rel.ren {f inv:Nat→Nat} {row row':Nat→Option Row} (hrow:∀ j r,row' j=some r→row (inv j)=some r) {v:Value} {x:SV} (hx:x.good f inv=true) (h:Rel P w E row v x):
  Rel P w { E with vb:=fun j=>E.vb (inv j),rb:=fun j=>E.rb (inv j) } row' v (x.ren f):=by
 induction x generalizing v with
 | aG t off=>simp only [SV.good,aqc] at hx; simpa only [SV.ren,Rel,hx] using h
 | own i=>
  simp only [SV.good,aqc] at hx
  intro r hr
  have:=h r (by rw [← hx]; exact hrow _ _ hr)
  simpa only [hx] using this
 | iJ i k off=>
  simp only [SV.good,aqc] at hx
  intro r hr
  have:=h r (by rw [← hx]; exact hrow _ _ hr)
  simpa only [hx] using this
 | view i k=>
  simp only [SV.good,aqc] at hx
  intro r hr
  have:=h r (by rw [← hx]; exact hrow _ _ hr)
  simpa only [hx] using this
 | clo g ts=>
  simp only [SV.good,afX,aqc] at hx
  simp only [SV.ren,Rel,apC] at h ⊢
  rw [h]
  congr 2
  exact ajh fun t ht=>by simp [hx t ht]
 | gd c x ih=>exact fun hc=>ih hx (h hc)
 | kT t x ih=>obtain ⟨u,e,h⟩:=h; exact ⟨u,e,ih hx h⟩
 | box _=>trivial
 | dead=>trivial
 | pd d=>exact h
 | ref d off=>exact h
 | tpl ds=>exact h
 | fn F=>exact h
theorem Nb {f:Nat→Nat} (x:SV) (cs:List Value):x.ren f≠.box cs:=by
 cases x <;> simp [SV.ren]
def qc (slots:List (Nat × SV)):List Nat→List (Nat × SV)
 | []=>[]
 | t::l=>if t<10000 then (t,(lk t slots).getD .dead)::qc slots l else qc slots l
def vw:List (Nat × SV)→List (Nat × SV)
 | []=>[]
 | (t,v)::l=>(t+10000,v)::vw l
def zB:List (Nat × SV)→List (Nat × SV)
 | []=>[]
 | (t,v)::l=>if t<10000 then (t,v)::zB l else zB l
def wY:List (Nat × SV)→List (Nat × SV)
 | []=>[]
 | (t,v)::l=>if t<10000 then wY l else (t - 10000,v)::wY l
def rY (t:Nat):Nat:=t+10000
def St.enter (s:St) (keep:List Nat) (n:Nat) (args:List SV):St:=
 ⟨n,slotsOf 0 (args.map (SV.ren rY)),D9 rY s.vars,Ea rY s.rows,s.maps,D8 rY (qc s.slots keep++vw s.gs)⟩
def qg (b t:Nat):Nat:=if 10000≤t then t - 10000 else t+b
def lD (b j:Nat):Nat:=if b≤j∧j<b+10000 then j - b else j+10000
def qX (keep:List Nat):List (Nat × List SV)→List (Nat × List SV)
 | []=>[]
 | (t,c)::l=>if 10000≤t∨keep.contains t then (t,c)::qX keep l else qX keep l
def qY (keep:List Nat):List (Nat × Row)→List (Nat × Row)
 | []=>[]
 | (t,c)::l=>if 10000≤t∨keep.contains t then (t,c)::qY keep l else qY keep l
def St.leave (s:St) (b n:Nat) (kv kr:List Nat):St:=
 ⟨n,D8 (qg b) (zB s.gs),D9 (qg b) (qX kv s.vars),Ea (qg b) (qY kr s.rows),s.maps,D8 (qg b) (wY s.gs)⟩
def St.wE (s:St) (b:Nat) (kv kr:List Nat):Bool:=
 Eb (qg b) (lD b) s.gs&&yH (qg b) (lD b) (qX kv s.vars)&&yI (qg b) (lD b) (qY kr s.rows)
def Cont (C:Cx) (all:Array Oper) (l:List Oper) (k:List KI) (dst:Option Nat) (a:Act):Ending→World→Prop
 | .returned v,w=>wpList C.P all (fin C k) l (a.put dst v) w
 | .panicked ch,w=>C.post (.panic ch) a w
 | _,_=>False
def Cx.sub (C:Cx) (fn:Func) (all:Array Oper) (l:List Oper) (k:List KI) (dst:Option Nat) (a:Act):Cx:=
 { P:=C.P,w0:=C.w0,G0:=C.G0,post:=bodyPost C.P fn (Cont C all l k dst a),mu:=C.mu,dr:=C.dr,ghost:=fun t=>if t<10000 then a.tmps.getD t undef else C.ghost (t - 10000) }
theorem csP (C:Cx) (fn:Func) (all:Array Oper) (l:List Oper) (k:List KI) (dst:Option Nat) (a:Act):(C.sub fn all l k dst a).P=C.P:=rfl
theorem csV (C:Cx) (fn:Func) (all:Array Oper) (l:List Oper) (k:List KI) (dst:Option Nat) (a:Act) (t:Nat):(C.sub fn all l k dst a).vb0 t=none:=rfl
theorem csR (C:Cx) (fn:Func) (all:Array Oper) (l:List Oper) (k:List KI) (dst:Option Nat) (a:Act) (t:Nat):(C.sub fn all l k dst a).iH t=none:=rfl
theorem csW (C:Cx) (fn:Func) (all:Array Oper) (l:List Oper) (k:List KI) (dst:Option Nat) (a:Act):(C.sub fn all l k dst a).w0=C.w0:=rfl
theorem csM (C:Cx) (fn:Func) (all:Array Oper) (l:List Oper) (k:List KI) (dst:Option Nat) (a:Act):(C.sub fn all l k dst a).mu=C.mu:=rfl
theorem Jk (slots:List (Nat × SV)) (t:Nat):∀ keep x,lk t (qc slots keep)=some x→t<10000∧x=(lk t slots).getD .dead
 | [],x,h=>by simp [qc,lk] at h
 | j::l,x,h=>by
  simp only [qc] at h
  split at h
  ·simp only [lk] at h
   split at h
   ·rename_i e; cases h; subst e; exact ⟨by assumption,rfl⟩
   ·exact Jk slots t l x h
  ·exact Jk slots t l x h
theorem Oj (t:Nat):∀ l x,lk t (vw l)=some x→10000≤t∧lk (t - 10000) l=some x
 | [],x,h=>by simp [vw,lk] at h
 | (j,y)::l,x,h=>by
  simp only [vw,lk] at h
  split at h
  ·rename_i e; cases h; subst e; exact ⟨by omega,by simp [lk]⟩
  ·rename_i hne
   obtain ⟨h1,h2⟩:=Oj t l x h
   exact ⟨h1,by rw [lk,adt (by omega)]; exact h2⟩
theorem Nc (t:Nat):∀ l x,lk t (zB l)=some x→t<10000∧lk t l=some x
 | [],x,h=>by simp [zB,lk] at h
 | (j,y)::l,x,h=>by
  simp only [zB] at h
  split at h
  ·simp only [lk] at h
   split at h
   ·rename_i e; cases h; subst e; exact ⟨by assumption,by simp [lk]⟩
   ·obtain ⟨h1,h2⟩:=Nc t l x h; exact ⟨h1,by rw [lk,adt (by assumption)]; exact h2⟩
  ·obtain ⟨h1,h2⟩:=Nc t l x h
   exact ⟨h1,by rw [lk,adt (by omega)]; exact h2⟩
theorem Jl (t:Nat):∀ l x,lk t (wY l)=some x→lk (t+10000) l=some x
 | [],x,h=>by simp [wY,lk] at h
 | (j,y)::l,x,h=>by
  simp only [wY] at h
  split at h
  ·have:=Jl t l x h; rw [lk,adt (by omega)]; exact this
  ·simp only [lk] at h
   split at h
   ·rename_i e; cases h; rw [lk,adA (by omega)]
   ·rename_i hne
    have:=Jl t l x h; rw [lk,adt (by omega)]; exact this
theorem Jm (keep:List Nat) (t:Nat):∀ l x,lk t (qX keep l)=some x→lk t l=some x
 | [],x,h=>by simp [qX,lk] at h
 | (j,y)::l,x,h=>by
  simp only [qX] at h
  split at h
  ·simp only [lk] at h ⊢
   split at h
   ·rw [adA (by assumption)]; exact h
   ·rw [adt (by assumption)]; exact Jm keep t l x h
  ·rename_i hn
   have:=Jm keep t l x h
   rw [lk]
   split
   ·rename_i e; subst e
    exact (hn (zC keep j l x h)).elim
   ·exact this
where
 zC (keep:List Nat) (t:Nat):∀ l x,lk t (qX keep l)=some x→10000≤t∨keep.contains t=true
 | [],x,h=>by simp [qX,lk] at h
 | (j,y)::l,x,h=>by
  simp only [qX] at h
  split at h
  ·rename_i hc
   simp only [lk] at h
   split at h
   ·rename_i e; subst e; exact hc
   ·exact zC keep t l x h
  ·exact zC keep t l x h
theorem Jo (keep:List Nat) (t:Nat):∀ l x,lk t (qY keep l)=some x→lk t l=some x
 | [],x,h=>by simp [qY,lk] at h
 | (j,y)::l,x,h=>by
  simp only [qY] at h
  split at h
  ·simp only [lk] at h ⊢
   split at h
   ·rw [adA (by assumption)]; exact h
   ·rw [adt (by assumption)]; exact Jo keep t l x h
  ·rename_i hn
   have:=Jo keep t l x h
   rw [lk]
   split
   ·rename_i e; subst e
    exact (hn (zD keep j l x h)).elim
   ·exact this
where
 zD (keep:List Nat) (t:Nat):∀ l x,lk t (qY keep l)=some x→10000≤t∨keep.contains t=true
 | [],x,h=>by simp [qY,lk] at h
 | (j,y)::l,x,h=>by
  simp only [qY] at h
  split at h
  ·rename_i hc
   simp only [lk] at h
   split at h
   ·rename_i e; subst e; exact hc
   ·exact zD keep t l x h
  ·exact zD keep t l x h
theorem QS (x:SV):x.good rY (· - 10000)=true:=by
 induction x with
 | gd c v ih=>exact ih
 | kT c v ih=>exact ih
 | _=>simp [SV.good,rY]
theorem QT:∀ l:List SV,sN rY (· - 10000) l=true
 | []=>rfl
 | v::l=>by simp only [sN,QS,QT l,avI]
theorem QU:∀ l:List (Nat × List SV),yH rY (· - 10000) l=true
 | []=>rfl
 | (t,c)::l=>by simp [yH,QT,QU l,rY]
theorem QV:∀ l:List (Nat × Row),yI rY (· - 10000) l=true
 | []=>rfl
 | (t,c)::l=>by simp [yI,QV l,rY]
theorem FN (f:Nat→Nat) (cs:List SV) (j:Nat):(cs.map (SV.ren f)).getD j .dead=(cs.getD j .dead).ren f:=kR (SV.ren f) rfl cs j
theorem aF.enter (g:aF C s a w E) (hr0:∀ i,C.iH i=none) (fn:Func) (keep:List Nat) {args:List SV} {vals:Array Value} (hs:vals.size=args.length) (hv:∀ i,i<args.length→Rel C.P w E s.row (vals.getD i undef) (args.getD i .dead)) (hn:args.length≤fn.ntmps):
  aF (C.sub fn all l k o.dst a) (s.enter keep fn.ntmps args) { tmps:=vals++afQ (fn.ntmps - vals.size) undef,defers:=[] } w { E with vb:=fun j=>E.vb (j - 10000),rb:=fun j=>E.rb (j - 10000) }:=by
 have hrow:∀ j r,(s.enter keep fn.ntmps args).row j=some r→s.row (j - 10000)=some r∧rY (j - 10000)=j:=fun j r h=>Na rY (· - 10000) j r s.rows (QV _) h
 have hvar:∀ j c,(s.enter keep fn.ntmps args).var j=some c→∃ x,s.var (j - 10000)=some x∧c=x.map (SV.ren rY)∧rY (j - 10000)=j:=fun j c h=>by
  obtain ⟨x,h1,h2,h3,_⟩:=MZ rY (· - 10000) j c s.vars (QU _) h; exact ⟨x,h1,h2,h3⟩
 have hrel:∀ v x,Rel C.P w E s.row v x→Rel C.P w { E with vb:=fun j=>E.vb (j - 10000),rb:=fun j=>E.rb (j - 10000) } (s.enter keep fn.ntmps args).row v (x.ren rY):=
  fun v x h=>Rel.ren (inv:=(· - 10000)) (fun j r h=>(hrow j r h).1) (QS x) h
 have hget:∀ t,(s.enter keep fn.ntmps args).get t=(args.getD t .dead).ren rY:=by
  intro t
  simp only [St.get,St.enter,mO,arI,aiq,Nat.sub_zero,ano,aax]
  cases args[t]? <;> rfl
 have nb:∀ t cs,(s.enter keep fn.ntmps args).get t≠.box cs:=fun t cs=>by rw [hget]; exact Nb _ cs
 exact {
  kept:=g.kept
  defers:=rfl
  size:=by simp only [aqK,ari]; show _=fn.ntmps; omega
  g0:=g.g0
  g1:=g.g1
  tab:=g.tab
  gw:=g.gw
  slots:=fun t=>by
   rw [hget]
   refine hrel _ _ ?_
   by_cases ht:t<args.length
   ·have h1:t<vals.size:=by omega
    have:(vals++afQ (fn.ntmps - vals.size) undef).getD t undef=vals.getD t undef:=by
     simp only [adr,ao9 h1]
    simp only [this]; exact hv t ht
   ·have:args.getD t .dead = .dead:=by simp [aax,ao6 (asV ht)]
    rw [this]; trivial
  bG:=fun t=>by
   simp only [St.fH,St.enter,Df]
   cases h:lk t (qc s.slots keep++vw s.gs) with
   | none=>trivial
   | some x=>
    rw [FK] at h
    simp only [ajr,agd]
    refine hrel _ _ ?_
    simp only [Cx.sub]
    cases h1:lk t (qc s.slots keep) with
    | some y=>
     simp only [h1,Option.some_or,ad2] at h; subst h
     obtain ⟨h2,h3⟩:=Jk _ _ _ _ h1
     rw [adA h2,h3]; exact g.slots t
    | none=>
     simp only [h1,Option.none_or] at h
     obtain ⟨h2,h3⟩:=Oj _ _ _ h
     rw [adt (by omega)]
     have:=g.bG (t - 10000)
     simpa only [St.fH,h3,agd] using this
  vars:=fun j c h=>by
   obtain ⟨x,h1,rfl,_⟩:=hvar j c h
   obtain ⟨cur,e,m,hs',hr'⟩:=g.vars _ x h1
   refine ⟨cur,e,m,by simpa using hs',fun i hi=>?_⟩
   rw [FN]
   have:=hr' i (by simpa using hi)
   exact ⟨this.1,hrel _ _ this.2⟩
  rows:=fun j r h=>by
   rcases g.rows _ r (hrow j r h).1 with h1 | ⟨b,cap,cur,i1,m,i2⟩
   ·exact .inl h1
   ·exact .inr ⟨b,cap,cur,i1,m,i2⟩
  maps:=g.maps
  boxes:=fun t cs h=>(nb t cs h).elim
  vv:=fun t t' c c' h h' he=>by
   obtain ⟨x,h1,_,e1⟩:=hvar t c h; obtain ⟨x',h1',_,e1'⟩:=hvar t' c' h'
   have:=g.vv _ _ _ _ h1 h1' he
   rw [← e1,← e1',this]
  rr:=fun i i' r r' p h h' hp p' hp' he=>by
   obtain ⟨h1,e1⟩:=hrow i r h; obtain ⟨h1',e1'⟩:=hrow i' r' h'
   have:=g.rr _ _ _ _ p h1 h1' hp p' hp' he
   rw [← e1,← e1',this]
  vr:=fun t c i r p h h' hp=>by
   obtain ⟨x,h1,_,_⟩:=hvar t c h
   have h2:=g.vr _ _ _ r p h1 (hrow i r h').1 hp
   exact h2
  bb:=fun t t' c c' h=>(nb t c h).elim
  bv:=fun t t' c c' h=>(nb t c h).elim
  br:=fun t c i r p h=>(nb t c h).elim
  dU:=fun t b h=>by cases h
  dN:=fun i p h=>by cases h
  dD:=fun i r p h hp _=>by
   have h2:=g.dD _ r p (hrow i r h).1 hp (hr0 _)
   exact h2 }
theorem aF.leave {fn:Func} {a':Act} (g:aF (C.sub fn all l k o.dst a) s a' w E) (hv0:∀ i,C.vb0 i=none) (hr0:∀ i,C.iH i=none) (b n:Nat) (kv kr:List Nat) (ok:s.wE b kv kr=true) (ha:a.defers=C.df) (hn:a.tmps.size=n):
  aF C (s.leave b n kv kr) a w { E with vb:=fun j=>E.vb (lD b j),rb:=fun j=>E.rb (lD b j) } ∧
   ∀ v x,x.good (qg b) (lD b)=true→Rel C.P w E s.row v x→Rel C.P w { E with vb:=fun j=>E.vb (lD b j),rb:=fun j=>E.rb (lD b j) } (s.leave b n kv kr).row v (x.ren (qg b)):=by
 simp only [St.wE,af5] at ok
 obtain ⟨⟨okg,okv⟩,okr⟩:=ok
 have hrow:∀ j r,(s.leave b n kv kr).row j=some r→s.row (lD b j)=some r∧qg b (lD b j)=j:=fun j r h=>by
  obtain ⟨h1,h2⟩:=Na (qg b) (lD b) j r _ okr h
  exact ⟨Jo _ _ _ _ h1,h2⟩
 have hvar:∀ j c,(s.leave b n kv kr).var j=some c→∃ x,s.var (lD b j)=some x∧c=x.map (SV.ren (qg b))∧qg b (lD b j)=j∧sN (qg b) (lD b) x=true:=fun j c h=>by
  obtain ⟨x,h1,h2,h3,h4⟩:=MZ (qg b) (lD b) j c _ okv h; exact ⟨x,Jm _ _ _ _ h1,h2,h3,h4⟩
 have hrel:∀ v x,x.good (qg b) (lD b)=true→Rel C.P w E s.row v x→Rel C.P w { E with vb:=fun j=>E.vb (lD b j),rb:=fun j=>E.rb (lD b j) } (s.leave b n kv kr).row v (x.ren (qg b)):=
  fun v x hx h=>Rel.ren (fun j r h=>(hrow j r h).1) hx h
 refine ⟨?_,hrel⟩
 have nb:∀ t cs,(s.leave b n kv kr).get t≠.box cs:=fun t cs=>by
  simp only [St.get,St.leave,Df]
  cases lk t (zB s.gs) with
  | none=>simp
  | some x=>exact Nb x cs
 exact {
  kept:=g.kept
  defers:=ha
  size:=hn
  g0:=g.g0
  g1:=g.g1
  tab:=g.tab
  gw:=g.gw
  slots:=fun t=>by
   simp only [St.get,St.leave,Df]
   cases h:lk t (zB s.gs) with
   | none=>trivial
   | some x=>
    obtain ⟨h1,h2⟩:=Nc _ _ _ h
    simp only [ajr,agd]
    refine hrel _ _ (FM okg t x h2) ?_
    have:=g.bG t
    simpa only [St.fH,h2,agd,Cx.sub,adA h1] using this
  bG:=fun t=>by
   simp only [St.fH,St.leave,Df]
   cases h:lk t (wY s.gs) with
   | none=>trivial
   | some x=>
    have h2:=Jl _ _ _ h
    simp only [ajr,agd]
    refine hrel _ _ (FM okg _ x h2) ?_
    have:=g.bG (t+10000)
    simpa only [St.fH,h2,agd,Cx.sub,adt (show ¬ t+10000<10000 by omega),avy] using this
  vars:=fun j c h=>by
   obtain ⟨x,h1,rfl,_,h4⟩:=hvar j c h
   obtain ⟨cur,e,m,hs',hr'⟩:=g.vars _ x h1
   refine ⟨cur,e,m,by simpa using hs',fun i hi=>?_⟩
   rw [FN]
   have:=hr' i (by simpa using hi)
   exact ⟨this.1,hrel _ _ (Oi h4 i) this.2⟩
  rows:=fun j r h=>by
   rcases g.rows _ r (hrow j r h).1 with h1 | ⟨b,cap,cur,i1,m,i2⟩
   ·exact .inl h1
   ·exact .inr ⟨b,cap,cur,i1,m,i2⟩
  maps:=g.maps
  boxes:=fun t cs h=>(nb t cs h).elim
  vv:=fun t t' c c' h h' he=>by
   obtain ⟨x,h1,_,e1,_⟩:=hvar t c h; obtain ⟨x',h1',_,e1',_⟩:=hvar t' c' h'
   have:=g.vv _ _ _ _ h1 h1' he
   rw [← e1,← e1',this]
  rr:=fun i i' r r' p h h' hp p' hp' he=>by
   obtain ⟨h1,e1⟩:=hrow i r h; obtain ⟨h1',e1'⟩:=hrow i' r' h'
   have:=g.rr _ _ _ _ p h1 h1' hp p' hp' he
   rw [← e1,← e1',this]
  vr:=fun t c i r p h h' hp=>by
   obtain ⟨x,h1,_,_,_⟩:=hvar t c h
   have h2:=g.vr _ _ _ r p h1 (hrow i r h').1 hp
   exact h2
  bb:=fun t t' c c' h=>(nb t c h).elim
  bv:=fun t t' c c' h=>(nb t c h).elim
  br:=fun t c i r p h=>(nb t c h).elim
  dU:=fun t b h=>by rw [hv0] at h; cases h
  dN:=fun i p h=>by rw [hr0] at h; cases h
  dD:=fun i r p h hp _=>by
   have h2:=g.dD _ r p (hrow i r h).1 hp rfl
   exact h2 }
theorem R.inline {f:FuncId} {fn:Func} {c:Code} {xs:Array Operand} {ts:Array TypeId} (keep:List Nat) (ho:o.op = .call ⟨.value (.func f),xs,ts⟩) (hg:o.guard=none) (hf:C.P.funcs[f]? = some fn) (hb:fn.body=some c) (he:aH C.P f) (hn:xs.size≤fn.ntmps) (hr0:∀ i,C.iH i=none)
  (h:∀ a,a.defers=C.df→a.tmps.size=s.n→R (C.sub fn all l k o.dst a) [.code c] (s.enter keep fn.ntmps (xs.toList.map (aU s)))):R C (.ops all (o::l)::k) s:=by
 intro a w E g
 refine wpList_plain hg fun K hK=>?_
 have hrun:=iF (P:=C.P) (w:=w) he a.eval o (.func f) xs ts #[] ho #[] rfl
 unfold Oper.wp
 rw [hrun,Oper.upon_enter]
 refine Calls.mono (calls_of_wp hf hb (R:=Cont C all l k o.dst a) ?_) ?_
 ·have g':=g.enter (all:=all) (l:=l) (k:=k) (o:=o) hr0 fn keep (args:=xs.toList.map (aU s)) (vals:=#[]++xs.map a.eval ++ #[]) (by simp) (fun i hi=>by
   simp only [adu,Array.length_toList] at hi
   have:=aY g xs[i]
   simpa [hi] using this) (by simpa using hn)
  have:=h a g.defers g.size _ w _ g'
  simp only [fin] at this
  exact wp_mono this (fun e a w h=>h)
 ·intro e w' h
  cases e with
  | returned v=>exact hK _ _ h
  | panicked ch=>exact oG a w' h k
  | _=>exact h.elim
def Ec (P:Program) (s:St):List ResultVar→Option (Prop × SV)
 | []=>some (True,.dead)
 | [.tmp t]=>some (True,(s.get t).unbox)
 | [.cell t ty]=>(kU P s.var s.row ty (s.get t)).map fun p=>(p.1,p.2.unbox)
 | rv=>(resD P s rv).map fun p=>(p.1,.tpl p.2)
theorem abh {fn:Func} {a':Act} (g:aF (C.sub fn all l k o.dst a) s a' w E) (hv0:∀ i,C.vb0 i=none) (hr0:∀ i,C.iH i=none) (b n:Nat) (kv kr:List Nat) {vc:Prop} {x:SV} (h:Ec C.P s fn.results.toList=some (vc,x)) (bg:vc) (ok:s.wE b kv kr=true) (hx:x.good (qg b) (lD b)=true)
  (ha:a.defers=C.df) (hn:a.tmps.size=n) (hd:bP (s.leave b n kv kr) o) (next:R C (.ops all l::k) ((s.leave b n kv kr).put o.dst (x.ren (qg b)))):
  a'.defers=[]∧∃ v,(results fn a'.tmps).run C.P w = .ok v w∧Cont C all l k o.dst a (.returned v) w:=by
 obtain ⟨g1,hrel⟩:=g.leave hv0 hr0 b n kv kr ok ha hn
 refine ⟨g.defers,?_⟩
 have fin':∀ v,Rel C.P w E s.row v x→Cont C all l k o.dst a (.returned v) w:=fun v hv=>next _ _ _ (g1.iC hd (hrel _ _ hx hv) (Nb x))
 match hrv:fn.results.toList,h with
 | [],h=>
  simp only [Ec,ad2,aqL] at h; obtain ⟨rfl,rfl⟩:=h
  exact ⟨_,iW (vs:=[]) (by rw [hrv]; simp),fin' _ trivial⟩
 | [.tmp t],h=>
  simp only [Ec,ad2,aqL] at h; obtain ⟨rfl,rfl⟩:=h
  exact ⟨_,iW (vs:=[a'.tmps.getD t undef]) (by rw [hrv]; simp [pX]),fin' _ (g.slots t).unbox⟩
 | [.cell t ty],h=>
  simp only [Ec] at h
  cases hl:kU C.P s.var s.row ty (s.get t) with
  | none=>simp [hl] at h
  | some p=>
   simp only [hl,ajr,ad2,aqL] at h; obtain ⟨rfl,rfl⟩:=h
   obtain ⟨u,hu,hr⟩:=Fp (C:=C.sub fn all l k o.dst a) g (vc:=p.1) (v:=p.2) hl bg (g.slots t)
   obtain ⟨ad,e1,e2⟩:=Ku hu
   have e3:Sem.run C.P (loadVar ty ad) w = .ok u w:=e2
   exact ⟨_,iW (vs:=[u]) (by rw [hrv]; simp [pX,e1,asAddr,e3]),fin' _ hr.unbox⟩
 | r1::r2::rest,h=>
  simp only [Ec] at h
  cases hl:resD C.P s (r1::r2::rest) with
  | none=>simp [hl] at h
  | some p=>
   simp only [hl,ajr,ad2,aqL] at h; obtain ⟨rfl,rfl⟩:=h
   obtain ⟨vs,h1,h2,h3⟩:=oK g (rv:=r1::r2::rest) (vc:=p.1) (rs:=p.2) hl bg
   refine ⟨_,iW (by rw [hrv]; exact h1),fin' _ ?_⟩
   have hl2:¬ vs.toArray.size=1:=by
    have:p.2.length=(r1::r2::rest).length:=BM hl
    simp at this; simp; omega
   rw [auV hl2]
   exact ⟨vs.toArray,rfl,by simp [h2],fun j hj=>by simpa [adr,aax] using h3 j hj⟩
theorem R.leave {fn:Func} {k':List KI} (hv0:∀ i,C.vb0 i=none) (hr0:∀ i,C.iH i=none) (b n:Nat) (kv kr:List Nat) {vc:Prop} {x:SV} (h:Ec C.P s fn.results.toList=some (vc,x)) (bg:vc) (ok:s.wE b kv kr=true) (hx:x.good (qg b) (lD b)=true)
  (ha:a.defers=C.df) (hn:a.tmps.size=n) (hd:bP (s.leave b n kv kr) o) (next:R C (.ops all l::k) ((s.leave b n kv kr).put o.dst (x.ren (qg b)))):R (C.sub fn all l k o.dst a) (.code .ret::k') s:=
 R.ret fun _ _ _ g=>abh g hv0 hr0 b n kv kr h bg ok hx ha hn hd next
end
def aeL (all:Array Oper) (n m:Nat) (o:Oper):Bool:=(o.looksAt all).all fun t=>(all.toList.zipIdx).all fun p=>decide (n≤p.2) || p.1.dst != some t || m.testBit p.2
def xC (all:Array Oper) (n:Nat):Bool:=
 let ms:=masks all.toList []
 (all.toList.zipIdx).all (fun p=>uV p.2 p.1&&(if p.2<n then aeL all n (ms.getD p.2 0) p.1&&(all.toList.zipIdx).all (fun q=>!(decide (q.2<p.2)) || q.1.dst == none || q.1.dst != p.1.dst)
  else (agi p.2).all fun j=>(ms.getD p.2 0).testBit j))&&decide (n≤all.size)
structure H7 (all:Array Oper) (n:Nat):Prop where
 le:n≤all.size
 edge:∀ i o,all[i]? = some o→∀ e∈o.after,apr .any e=true→e.on<i
 look:∀ i o,i<n→all[i]? = some o→∀ t∈o.looksAt all,∀ j o',j<n→all[j]? = some o'→o'.dst=some t→((masks all.toList []).getD i 0).testBit j=true
 dist:∀ i j o o' t,i<n→j<i→all[i]? = some o→all[j]? = some o'→o.dst=some t→o'.dst=some t→False
 tail:∀ i o,n≤i→all[i]? = some o→∀ j,j<i→((masks all.toList []).getD i 0).testBit j=true
 good:Qa all.toList (masks all.toList [])
 len:(masks all.toList []).length=all.size
theorem Ol {all:Array Oper} {n:Nat} (h:xC all n=true):H7 all n:=by
 unfold xC at h
 simp only [af5,aqp] at h
 obtain ⟨h1,h2⟩:=h
 have hp:∀ i o,all[i]? = some o→_:=fun i o ho=>(afX.1 h1) (o,i) (mem_zipIdx' ho)
 obtain ⟨hg,hl⟩:=Kv all.toList all.toList [] (by simp) (by simp) (fun i o hi=>by simp at hi)
 refine ⟨h2,fun i o ho e he hb=>?_,fun i o hi ho t ht j o' hjn ho' hd=>?_,fun i j o o' t hi hj ho ho' hd hd'=>?_,fun i o hi ho j hj=>?_,hg,by simpa using hl⟩
 ·have:=hp i o ho
  simp only [af5] at this
  have h3:=(afX.1 this.1) e (by simpa using he)
  simpa [hb] using h3
 ·have:=hp i o ho
  simp only [af5,adA hi] at this
  have h3:=(afX.1 this.2.1) t ht
  have h4:=(afX.1 h3) (o',j) (mem_zipIdx' ho')
  simpa [hd,Nat.not_le.2 hjn] using h4
 ·have:=hp i o ho
  simp only [af5,adA hi] at this
  have h4:=(afX.1 this.2.2) (o',j) (mem_zipIdx' ho')
  simp [hd,hd',hj] at h4
 ·have:=hp i o ho
  simp only [af5,adt (Nat.not_lt.2 hi)] at this
  exact (afX.1 this.2) j (by simpa using hj)
section
variable {C:Cx} {s s':St} {a:Act} {w w':World} {E:Env} {P:Program} {all:Array Oper} {k:List KI} {o:Oper}
theorem pU {n:Nat} (D:H7 all n) {L:Array Bool} (hc:∀ i o,L.getD i false=true→all[i]? = some o→∀ e∈o.after,apr .any e=true→L.getD e.on false=true) (hs:L.size=all.size):
  ∀ i o,all[i]? = some o→(∀ e∈o.after,apr .any e=true→L.getD e.on false=true)→∀ j,((masks all.toList []).getD i 0).testBit j=true→L.getD j false=true∧j<i:=by
 intro i
 induction i using Nat.strongRecOn with
 | _ i ih=>
  intro o ho he j hb
  have hi:i<all.size:=(ad6.1 ho).1
  obtain ⟨e,hem,hbd,h1⟩:=D.good i o (by rw [D.len]; exact hi) (by simpa using ho) j hb
  have agt:e∈o.after:=by simpa using hem
  have hlt:=D.edge i o ho e agt hbd
  have hL:=he e agt hbd
  rcases h1 with h1 | h1
  ·subst h1; exact ⟨hL,hlt⟩
  ·have h2:e.on<all.size:=by omega
   have h3:all[e.on]? = some all[e.on]:=by simp [h2]
   have:=ih e.on hlt all[e.on] h3 (hc e.on _ hL h3) j h1
   exact ⟨this.1,by omega⟩
theorem Kz {n:Nat} (D:H7 all n) {Q:Exit→Act→World→Prop}:∀ (l:List Oper) (m:Nat) (L:Array Bool) (fuel:Nat) (a:Act) (w:World),n≤m→m+l.length=all.size→(∀ j,l[j]? = all[m+j]?)→l.length≤fuel→L.size=all.size →
  (∀ i,i<all.size→L.getD i false=decide (i<m))→wpList C.P all Q l a w→wpAny C.P .any all Q fuel L a w
 | [],m,L,fuel,a,w,hn,hm,hl,hf,hs,hL,h=>by
  have hr:aqj .any all L=[]:=by
   apply au7.2
   intro i hi
   obtain ⟨h1,o,ho,_⟩:=mem_ready.1 hi
   have hlt:=(ad6.1 ho).1
   rw [iP (by omega),hL i hlt] at h1
   simp at h1 hm; omega
  cases fuel with
  | zero=>exact ⟨hr,h⟩
  | succ f=>exact ⟨fun _=>h,fun i hi=>by rw [hr] at hi; cases hi⟩
 | o::l,m,L,fuel,a,w,hn,hm,hl,hf,hs,hL,h=>by
  simp only [afM] at hm hf
  have ho:all[m]? = some o:=by have:=hl 0; simpa using this.symm
  have agu:m<all.size:=by omega
  have YJ:m∈aqj .any all L:=mem_ready.2 ⟨by rw [iP (by omega),hL m agu]; simp,o,ho,fun e he hb=>by
   have:=D.edge m o ho e he hb
   rw [hL e.on (by omega)]; simpa using this⟩
  have ako:∀ i,i∈aqj .any all L→i=m:=by
   intro i hi
   obtain ⟨h1,o',ho',hall⟩:=mem_ready.1 hi
   have hlt:=(ad6.1 ho').1
   rw [iP (by omega),hL i hlt] at h1
   simp at h1
   rcases apf m i with c | c
   ·have hbit:=D.tail i o' (by omega) ho' m c
    have hcl:∀ i o,L.getD i false=true→all[i]? = some o→∀ e∈o.after,apr .any e=true→L.getD e.on false=true:=by
     intro i2 o2 h2 ho2 e he hb
     have h3:=(ad6.1 ho2).1
     rw [hL i2 h3] at h2
     have h4:=D.edge i2 o2 ho2 e he hb
     rw [hL e.on (by omega)]
     simp at h2 ⊢; omega
    have:=(pU D hcl hs i o' ho' hall m hbit).1
    rw [hL m agu] at this
    simp at this
   ·omega
  cases fuel with
  | zero=>omega
  | succ f=>
   refine ⟨fun hnil=>(by rw [hnil] at YJ; cases YJ),fun i hi=>?_⟩
   obtain rfl:=ako i hi
   have hw:wpOp C.P all Q i (wpList C.P all Q l) a w:=by
    unfold wpOp
    simp only [ho]
    exact h
   refine wpOp_mono (fun a' w' h'=>?_) hw
   refine Kz D l (i+1) _ f a' w' (by omega) (by omega) (fun j=>?_) (by omega) (by simpa using hs) (fun i' hi'=>?_) h'
   ·have:=hl (j+1); simp only [List.getElem?_cons_succ] at this; rw [this]; congr 1; omega
   ·by_cases c:i'=i
    ·subst c; rw [pG (by omega)]; simp
    ·rw [getD_set_ne false (aqm c),hL i' hi']
     simp; omega
end
def AA (row row':Nat→Option Row):Prop:=∀ i r,row i=some r→row' i=some r
section
variable {C:Cx} {s s':St} {all:Array Oper} {k:List KI} {P:Program} {o:Oper} {row row':Nat→Option Row} {var:Nat→Option (List SV)} {ρ:Operand→SV}
theorem AA.key (h:AA row row') (i:Nat):row i=none∨row' i=row i:=by
 cases e:row i with
 | none=>exact .inl rfl
 | some r=>exact .inr (h i r e)
theorem aeM (h:AA row row') (op:Op) {x:Prop × SV} (hx:ay P ρ var row op=some x):ay P ρ var row' op=some x:=by
 have key:=h.key
 cases op with
 | load t y=>
  simp only [ay] at hx ⊢
  generalize ρ y=v at hx ⊢
  cases v with
  | iJ id i off=>
   simp only [kU] at hx ⊢
   rcases key id with e | e
   ·rw [e] at hx; cases hx
   ·rw [e]; exact hx
  | _=>exact hx
 | nilCheck y=>
  simp only [ay] at hx ⊢
  generalize ρ y=v at hx ⊢
  cases v with
  | iJ id i off=>
   simp only [Ar] at hx ⊢
   rcases key id with e | e
   ·rw [e] at hx; simp at hx
   ·rw [e]; exact hx
  | pd d=>cases d <;> first | exact hx | (rename_i v; cases v <;> first | exact hx | (rename_i fr a b; cases fr <;> exact hx))
  | _=>exact hx
 | fieldAddr t y f=>
  simp only [ay,ny] at hx ⊢
  generalize ρ y=v at hx ⊢
  cases hf:dO P t f with
  | none=>rw [hf] at hx; cases hx
  | some p=>
   obtain ⟨off,ft⟩:=p
   rw [hf] at hx
   cases v with
   | iJ id i o=>
    simp only at hx ⊢
    rcases key id with e | e
    ·rw [e] at hx; simp at hx
    ·rw [e]; exact hx
   | _=>exact hx
 | indexAddr t y i=>
  simp only [ay] at hx ⊢
  generalize ρ y=v at hx ⊢
  cases hi:idx (ρ i) with
  | none=>rw [hi] at hx; cases hx
  | some ki=>
   rw [hi] at hx
   simp only [Option.bind_some,qp] at hx ⊢
   cases hs:fA P t with
   | none=>rw [hs] at hx; exact hx
   | some e0=>
    rw [hs] at hx
    cases v with
    | own id=>
     simp only at hx ⊢
     rcases key id with e | e
     ·rw [e] at hx; cases hx
     ·rw [e]; exact hx
    | view id k0=>
     simp only at hx ⊢
     rcases key id with e | e
     ·rw [e] at hx; cases hx
     ·rw [e]; exact hx
    | pd d=>cases d <;> exact hx
    | _=>exact hx
 | call c=>
  obtain ⟨f,xs,ts⟩:=c
  simp only [ay,zn] at hx ⊢
  generalize xs.toList=l at hx ⊢
  generalize ts.toList=m at hx ⊢
  cases f with
  | builtin b=>
   cases b with
   | len=>
    rcases l with _ | ⟨y,_ | ⟨z,l⟩⟩ <;> rcases m with _ | ⟨t,_ | ⟨u,m⟩⟩ <;> try exact hx
    simp only at hx ⊢
    generalize ρ y=v at hx ⊢
    cases v with
    | own id=>
     simp only [Aq] at hx ⊢
     rcases key id with e | e
     ·rw [e] at hx; cases hx
     ·rw [e]; exact hx
    | view id k0=>
     simp only [Aq] at hx ⊢
     rcases key id with e | e
     ·rw [e] at hx; cases hx
     ·rw [e]; exact hx
    | pd d=>cases d <;> first | exact hx | (rename_i v; cases v <;> first | exact hx | (rename_i fr a b; cases fr <;> exact hx))
    | _=>exact hx
   | _=>exact hx
  | _=>exact hx
 | makeFunc fn first cs=>cases fn <;> exact hx
 | slice t x lo hi mx=>cases mx <;> exact hx
 | _=>exact hx
theorem Cv.mono (h:AA row row') {x:SV} {d:PD} (hc:Cv var row x d):Cv var row' x d:=by
 induction hc with
 | pd d=>exact .pd d
 | nil sz=>exact .nil sz
 | own id r hr=>exact .own id r (h _ _ hr)
 | clo f ts ds hl css hv hc ih=>exact .clo f ts ds hl css hv ih
theorem Co.mono (h:AA row row') {x y:SV} {b:Bool} (hc:Co P var row x y b):Co P var row' x y b:=by
 cases hc with
 | dead=>exact .dead _
 | pd=>exact .pd _
 | ref=>exact .ref _ _
 | fn=>exact .fn _
 | nil=>exact .nil _
 | own id r hr=>exact .own id r (h _ _ hr)
 | var t cs d h1 hw hc=>exact .var t cs d h1 hw fun j hj=>(hc j hj).mono h
 | elem id i o r hr hi=>exact .elem id i o r (h _ _ hr) hi
 | func f F he h1=>exact .func f F he h1
 | clo f ts ds F hv he h1=>exact .clo f ts ds F (hv.mono h) he h1
 | Fv f ds F he h1=>exact .Fv f ds F he h1
theorem jf.mono (h:AA row row') {xs ys:List SV} {b:Bool} (hc:jf P var row xs ys b):jf P var row' xs ys b:=by
 induction hc with
 | nil=>exact .nil
 | cons h1 _ ih=>exact .cons (h1.mono h) ih
theorem Y.mono {dr:Bool} {v:SV} (h:AA row row') (y:Y dr P var row ρ o v):Y dr P var row' ρ o v:=by
 cases y with
 | op vc v h1 bg=>exact .op vc v (aeM h _ h1) bg
 | call f xs ts args rs l ho hc hf hl=>exact .call f xs ts args rs l ho (hc.mono h) hf hl
 | sK f xs ts args rs l hdr ho hc hf hl=>exact .sK f xs ts args rs l hdr ho (hc.mono h) hf hl
 | mM t xs ts F ds r ho ht hd hF=>exact .mM t xs ts F ds r ho ht hd hF
 | gI t f xs ts args rs l ho ht hc hf hl=>exact .gI t f xs ts args rs l ho ht (hc.mono h) hf hl
 | qx t f xs ts args rs l hdr ho ht hc hf hl=>exact .qx t f xs ts args rs l hdr ho ht (hc.mono h) hf hl
 | nU t f ds xs ts args rs l ho ht hc hf hl=>exact .nU t f ds xs ts args rs l ho ht (hc.mono h) hf hl
 | look t x k ok ks ds key kt e td d ho hx hk ht fd h1=>exact .look t x k ok ks ds key kt e td d ho hx hk ht fd h1
 | slice t e n sz parts ds ho he hz h0 hn hp hd hw hzero=>exact .slice t e n sz parts ds ho he hz h0 hn hp hd hw hzero
 | alloc t zs ho hz h1=>exact .alloc t zs ho hz h1
theorem YG.mono {dr:Bool} {v:SV} (hg:∀ t,s'.get t=s.get t) (hv:s'.vars=s.vars) (hr:AA s.row s'.row) (y:YG dr P all s o v):YG dr P all s' o v:=by
 have e0:aU s'=aU s:=funext fun x=>Oe fun t _=>hg t
 have e1:uS s'=uS s:=funext fun x=>by simp only [uS,e0]
 have hvar:s'.var=s.var:=by funext t; simp [St.var,hv]
 rcases y with ⟨h1,h2⟩ | ⟨j,want,t,c,v',h1,h2,h3,h4,h5⟩ | ⟨j,want,t,h1,h2,h3⟩
 ·exact .inl ⟨h1,by rw [hvar,e0]; exact h2.mono hr⟩
 ·refine .inr (.inl ⟨j,want,t,c,v',h1,h2,by rw [hg t]; exact h3,h4,fun hc=>?_⟩)
  obtain ⟨h6,h7⟩:=h5 hc
  exact ⟨by rw [e0]; exact h6,by rw [hvar,e1]; exact h7.mono hr⟩
 ·refine .inr (.inr ⟨j,want,t,h1,h2,?_⟩)
  rw [hg t]
  rcases h3 with ⟨h4,h5⟩ | h4
  ·exact .inl ⟨h4,by rw [hvar,e0]; exact h5.mono hr⟩
  ·exact .inr h4
end
def St.hide (Q:List Nat) (s:St):St:={ s with rows:=s.rows.filter fun p=>!Q.contains p.1 }
inductive It where
 | y (v:SV)
 | a (q:Nat) (r:Option Row) (x:SV)
def St.chain (s:St) (q:Nat) (r:Option Row):St:=
 { s with slots:=s.slots.map fun p=>(p.1,p.2.aQ q),vars:=s.vars.map fun p=>(p.1,p.2.map (SV.aQ q)),rows:=(match r with | some r=>up q r s.rows | none=>er q s.rows),gs:=s.gs.map fun p=>(p.1,p.2.aQ q) }
theorem oI (s:St) (i:Nat) (r:Option Row) (j:Nat):(s.chain i r).get j=(s.get j).aQ i:=by
 simp only [St.get,St.chain,gX]; cases lk j s.slots <;> rfl
theorem xE (s:St) (i:Nat) (r:Option Row) (j:Nat):(s.chain i r).row j=if j=i then r else s.row j:=by
 cases r with
 | some r=>simp only [St.row,St.chain,jO]
 | none=>simp only [St.row,St.chain,Wh]
def It.app (s:St) (o:Oper):It→St
 | .y v=>s.put o.dst v
 | .a q r x=>(s.chain q r).put o.dst x
def YK (q:Nat) (x:SV):Prop:=x = .own q∨x = .dead∨∃ d,x = .pd d
def Ed (s:St):List (Oper × It)→St
 | []=>s
 | p::l=>Ed (p.2.app s p.1) l
theorem IJ (s:St):∀ (l l':List (Oper × It)),Ed s (l++l')=Ed (Ed s l) l'
 | [],_=>rfl
 | _::l,l'=>IJ _ l l'
def abj (C:Cx) (all:Array Oper) (s:St) (o:Oper) (q:Nat) (r:Option Row) (x:SV):Prop:=
 ∀ (s':St) (k:List KI),s'.n=s.n→(∀ t∈o.looksAt all,s'.get t=s.get t)→s'.row q=s.row q→R C (.ops all []::k) ((s'.chain q r).put o.dst x)→R C (.ops all [o]::k) s'
def nM (C:Cx) (all:Array Oper) (Q:List Nat) (tail:List Oper) (k:List KI):List (Oper × Option Nat)→St→Prop
 | [],s=>R C (.ops all tail::k) s
 | (o,none)::l,s=>∃ v,YG C.dr C.P all (s.hide Q) o v∧bP s o∧(∀ q∈Q,v.aQ q=v)∧nM C all Q tail k l (s.put o.dst v)
 | (o,some q)::l,s=>∃ r x,q∈Q∧YK q x∧abj C all s o q r x∧bP s o∧o.dst≠none∧nM C all Q tail k l ((s.chain q r).put o.dst x)
def agv (C:Cx) (all:Array Oper) (Q:List Nat) (S:St) (o:Oper):Option Nat→It→Prop
 | none,.y v=>YG C.dr C.P all (S.hide Q) o v∧bP S o∧∀ q∈Q,v.aQ q=v
 | some q,.a q' r x=>q'=q∧q∈Q∧YK q x∧abj C all S o q r x∧bP S o∧o.dst≠none
 | _,_=>False
section
variable {C:Cx} {s s':St} {all:Array Oper} {k:List KI} {P:Program} {o:Oper}
theorem nM.unfold {Q:List Nat} (tail:List Oper):∀ (l:List (Oper × Option Nat)) (s:St),nM C all Q tail k l s→∃ its:List It,its.length=l.length∧R C (.ops all tail::k) (Ed s ((l.map (·.1)).zip its)) ∧
   ∀ i o q,l[i]? = some (o,q)→∃ it,its[i]? = some it∧agv C all Q (Ed s (((l.map (·.1)).zip its).take i)) o q it
 | [],s,h=>⟨[],rfl,h,fun i o q ho=>by simp at ho⟩
 | (o,none)::l,s,h=>by
  obtain ⟨v,h1,h2,h3,h4⟩:=h
  obtain ⟨its,hl,hr,hy⟩:=nM.unfold tail l _ h4
  refine ⟨.y v::its,by simp [hl],hr,fun i o' q ho=>?_⟩
  cases i with
  | zero=>simp at ho; obtain ⟨rfl,rfl⟩:=ho; exact ⟨.y v,rfl,h1,h2,h3⟩
  | succ i=>exact hy i o' q (by simpa using ho)
 | (o,some q)::l,s,h=>by
  obtain ⟨r,x,h1,hx,h2,h3,h4,h5⟩:=h
  obtain ⟨its,hl,hr,hy⟩:=nM.unfold tail l _ h5
  refine ⟨.a q r x::its,by simp [hl],hr,fun i o' q' ho=>?_⟩
  cases i with
  | zero=>simp at ho; obtain ⟨rfl,rfl⟩:=ho; exact ⟨.a q r x,rfl,rfl,h1,hx,h2,h3,h4⟩
  | succ i=>exact hy i o' q' (by simpa using ho)
def Clean (q:Nat) (s:St):Prop:=(s.slots.map fun p=>(p.1,p.2.aQ q))=s.slots∧(s.vars.map fun p=>(p.1,p.2.map (SV.aQ q)))=s.vars∧(s.gs.map fun p=>(p.1,p.2.aQ q))=s.gs
theorem Clean.get {q:Nat} (h:Clean q s) (t:Nat):(s.get t).aQ q=s.get t:=by
 have h1:=St.DJ s q ⟨0,0,[]⟩ t
 rw [← h1]
 simp only [St.get,St.newRow,h.1]
theorem pV (s:St) (d:Option Nat) (v:SV) (i:Nat):(s.put d v).row i=s.row i:=by cases d <;> rfl
theorem AB (s:St) (d:Option Nat) (v:SV):(s.put d v).n=s.n∧(s.put d v).vars=s.vars∧(s.put d v).maps=s.maps∧(s.put d v).gs=s.gs:=by cases d <;> exact ⟨rfl,rfl,rfl,rfl⟩
structure nC (C:Cx) (all:Array Oper) (n:Nat) (Q:List Nat) (qs:Nat→Option Nat) (s:St) (S:Nat→St):Prop where
 zero:S 0=s
 step:∀ i o,i<n→all[i]? = some o→∃ it,S (i+1)=it.app (S i) o∧agv C all Q (S i) o (qs i) it
 clean:∀ q∈Q,Clean q s
 top:∀ i,n≤i→qs i=none
 size:n≤all.size
 dist:∀ i j o o' t,i<n→j<i→all[i]? = some o→all[j]? = some o'→o.dst=some t→o'.dst=some t→False
section
variable {n:Nat} {Q:List Nat} {qs:Nat→Option Nat} {S:Nat→St}
theorem nC.case (H:nC C all n Q qs s S) {i:Nat} (hi:i<n) (ho:all[i]? = some o):
  (qs i=none∧∃ v,S (i+1)=(S i).put o.dst v∧YG C.dr C.P all ((S i).hide Q) o v∧bP (S i) o∧∀ q∈Q,v.aQ q=v) ∨
  ∃ q r x,qs i=some q∧q∈Q∧S (i+1)=((S i).chain q r).put o.dst x∧YK q x∧abj C all (S i) o q r x∧bP (S i) o∧o.dst≠none:=by
 obtain ⟨it,h1,h2⟩:=H.step i o hi ho
 cases hq:qs i with
 | none=>
  rw [hq] at h2
  cases it with
  | y v=>exact .inl ⟨rfl,v,h1,h2⟩
  | a q r x=>exact h2.elim
 | some q=>
  rw [hq] at h2
  cases it with
  | y v=>exact h2.elim
  | a q' r x=>
   obtain ⟨rfl,h3,hx,h4,h5,h6⟩:=h2
   exact .inr ⟨q',r,x,rfl,h3,h1,hx,h4,h5,h6⟩
theorem nC.op (H:nC C all n Q qs s S) {i:Nat} (hi:i<n):∃ o,all[i]? = some o:=⟨all[i]'(ajq hi H.size),by have:=H.size; simp [show i<all.size by omega]⟩
theorem nC.ne (H:nC C all n Q qs s S) {i j:Nat} {o o':Oper} {t:Nat} (hi:i<n) (hj:j<n) (hij:i≠j) (ho:all[i]? = some o) (ho':all[j]? = some o') (hd:o.dst=some t):o'.dst≠some t:=fun hd'=>by
 rcases Nat.lt_or_gt_of_ne hij with c | c
 ·exact H.dist j i o' o t hj c ho' ho hd' hd
 ·exact H.dist i j o o' t hi c ho ho' hd hd'
theorem nC.frame (H:nC C all n Q qs s S):∀ m,m≤n→(S m).n=s.n∧(S m).vars=s.vars∧(S m).maps=s.maps∧(S m).gs=s.gs
 | 0,_=>by rw [H.zero]; exact ⟨rfl,rfl,rfl,rfl⟩
 | m+1,hm=>by
  obtain ⟨h1,h2,h3,h4⟩:=H.frame m (by omega)
  obtain ⟨o,ho⟩:=H.op (i:=m) (by omega)
  rcases H.case (by omega) ho with ⟨_,v,e,_⟩ | ⟨q,r,x,_,hq,e,_⟩
  ·rw [e]
   obtain ⟨p1,p2,p3,p4⟩:=AB (S m) o.dst v
   exact ⟨p1.trans h1,p2.trans h2,p3.trans h3,p4.trans h4⟩
  ·rw [e]
   obtain ⟨p1,p2,p3,p4⟩:=AB ((S m).chain q r) o.dst x
   have hc:=H.clean q hq
   exact ⟨p1.trans h1,p2.trans (by show asq _ (S m).vars=_; rw [h2]; exact hc.2.1),p3.trans h3,p4.trans (by show asq _ (S m).gs=_; rw [h4]; exact hc.2.2)⟩
theorem nC.rows (H:nC C all n Q qs s S) {i:Nat} (hi:i∉Q):∀ m,m≤n→(S m).row i=s.row i
 | 0,_=>by rw [H.zero]
 | m+1,hm=>by
  have h1:=H.rows hi m (by omega)
  obtain ⟨o,ho⟩:=H.op (i:=m) (by omega)
  rcases H.case (by omega) ho with ⟨_,v,e,_⟩ | ⟨q,r,x,_,hq,e,_⟩
  ·rw [e,pV]; exact h1
  ·rw [e,pV,xE,adt (fun e:i=q=>hi (by rw [e]; exact hq))]; exact h1
theorem nC.rest (H:nC C all n Q qs s S) {t:Nat}:∀ m,m≤n→(∀ i o,i<m→all[i]? = some o→o.dst≠some t)→(S m).get t=s.get t
 | 0,_,_=>by rw [H.zero]
 | m+1,hm,h=>by
  have h1:=H.rest m (by omega) fun i o hi=>h i o (by omega)
  obtain ⟨o,ho⟩:=H.op (i:=m) (by omega)
  have hd:=h m o (by omega) ho
  rcases H.case (by omega) ho with ⟨_,v,e,_⟩ | ⟨q,r,x,_,hq,e,_⟩
  ·rw [e,get_put,adt hd]; exact h1
  ·rw [e,get_put,adt hd,oI,h1]; exact (H.clean q hq).get t
theorem nC.abk (H:nC C all n Q qs s S) {i:Nat} {t:Nat} (hi:i<n) (ho:all[i]? = some o) (hd:o.dst=some t) (hq:qs i=none):
  (∀ q∈Q,((S (i+1)).get t).aQ q=(S (i+1)).get t)∧∀ m,i<m→m≤n→(S m).get t=(S (i+1)).get t:=by
 rcases H.case hi ho with ⟨_,v,e,_,_,hk⟩ | ⟨q,r,x,hq',_⟩
 ·have hv:(S (i+1)).get t=v:=by rw [e,get_put,adA hd]
  rw [hv]
  refine ⟨hk,fun m hm=>?_⟩
  induction m with
  | zero=>omega
  | succ m ih=>
   intro hmn
   by_cases c:m=i
   ·subst c; exact hv
   ·have h1:=ih (by omega) (by omega)
    obtain ⟨o',ho'⟩:=H.op (i:=m) (by omega)
    have hne:=H.ne hi (by omega) (aqm c) ho ho' hd
    rcases H.case (by omega) ho' with ⟨_,v',e',_⟩ | ⟨q,r,x,_,hq',e',_⟩
    ·rw [e',get_put,adt hne]; exact h1
    ·rw [e',get_put,adt hne,oI,h1]; exact hk q hq'
 ·rw [hq] at hq'; cases hq'
theorem nC.abl (H:nC C all n Q qs s S) {i:Nat} {t q:Nat} (hi:i<n) (ho:all[i]? = some o) (hd:o.dst=some t) (hq:qs i=some q):∀ m,i<m→m≤n→YK q ((S m).get t)
 | 0,h,_=>by omega
 | m+1,h,hm=>by
  obtain ⟨o',ho'⟩:=H.op (i:=m) (by omega)
  by_cases c:m=i
  ·subst c
   rw [ho] at ho'; cases ho'
   rcases H.case hi ho with ⟨h1,_⟩ | ⟨q',r,x,h1,_,e,hx,_⟩
   ·rw [hq] at h1; cases h1
   ·rw [hq] at h1; cases h1
    rw [e,get_put,adA hd]; exact hx
  ·have h1:=H.abl hi ho hd hq m (by omega) (by omega)
   have hne:=H.ne hi (by omega) (aqm c) ho ho' hd
   rcases H.case (by omega) ho' with ⟨_,v',e',_⟩ | ⟨q',r,x',_,hq',e',_⟩
   ·rw [e',get_put,adt hne]; exact h1
   ·rw [e',get_put,adt hne,oI]
    rcases h1 with h1 | h1 | ⟨d,h1⟩
    ·rw [h1]; simp only [SV.aQ]
     split
     ·exact .inr (.inl rfl)
     ·exact .inl rfl
    ·rw [h1]; exact .inr (.inl rfl)
    ·rw [h1]; exact .inr (.inr ⟨d,rfl⟩)
theorem adF {q q':Nat} (h:q≠q') {x:SV} (hx:YK q x):x.aQ q'=x:=by
 rcases hx with rfl | rfl | ⟨d,rfl⟩
 ·simp only [SV.aQ]; rw [adt h]
 ·rfl
 ·rfl
theorem nC.still (H:nC C all n Q qs s S) {q m:Nat}:∀ m',m≤m'→m'≤n→(∀ j,m≤j→j<m'→qs j≠some q)→(S m').row q=(S m).row q ∧
  ∀ i o t,i<m→i<n→all[i]? = some o→o.dst=some t→qs i=some q→(S m').get t=(S m).get t
 | 0,h,_,_=>by
  obtain rfl:m=0:=by omega
  exact ⟨rfl,fun _ _ _ _ _ _ _ _=>rfl⟩
 | m' + 1,h,hm,hno=>by
  by_cases c:m=m' + 1
  ·subst c; exact ⟨rfl,fun _ _ _ _ _ _ _ _=>rfl⟩
  ·obtain ⟨h1,h2⟩:=H.still m' (by omega) (by omega) fun j hj hj'=>hno j hj (by omega)
   obtain ⟨o',ho'⟩:=H.op (i:=m') (by omega)
   have hq:=hno m' (by omega) (by omega)
   rcases H.case (by omega) ho' with ⟨_,v',e',_⟩ | ⟨q',r,x',hq',_,e',_⟩
   ·refine ⟨by rw [e',pV]; exact h1,fun i o t him hin ho hd hqi=>?_⟩
    rw [e',get_put,adt (H.ne hin (by omega) (by omega) ho ho' hd)]; exact h2 i o t him hin ho hd hqi
   ·have hne:q≠q':=fun e=>hq (by rw [hq',e])
    refine ⟨by rw [e',pV,xE,adt hne]; exact h1,fun i o t him hin ho hd hqi=>?_⟩
    rw [e',get_put,adt (H.ne hin (by omega) (by omega) ho ho' hd),oI,adF hne (H.abl hin ho hd hqi m' (by omega) (by omega))]
    exact h2 i o t him hin ho hd hqi
end
def Cut (qs:Nat→Option Nat) (L:Array Bool) (q m:Nat):Prop:=(∀ j,j<m→qs j=some q→L.getD j false=true)∧∀ j,m≤j→qs j=some q→L.getD j false=false
structure AtA (all:Array Oper) (n:Nat) (Q:List Nat) (qs:Nat→Option Nat) (S:Nat→St) (s s':St) (L:Array Bool):Prop where
 size:L.size=all.size
 closed:∀ i o,L.getD i false=true→all[i]? = some o→∀ e∈o.after,apr .any e=true→L.getD e.on false=true
 tail:∀ i,n≤i→L.getD i false=false
 sn:s'.n=s.n
 sv:s'.vars=s.vars
 sm:s'.maps=s.maps
 sg:s'.gs=s.gs
 Ee:∀ i,i∉Q→s'.row i=s.row i
 Jp:∀ q m,q∈Q→m≤n→Cut qs L q m→s'.row q=(S m).row q
 Ef:∀ i o t,i<n→L.getD i false=true→all[i]? = some o→o.dst=some t→qs i=none→s'.get t=(S (i+1)).get t
 yJ:∀ i o t q m,i<n→L.getD i false=true→all[i]? = some o→o.dst=some t→qs i=some q→i<m→m≤n→Cut qs L q m→s'.get t=(S m).get t
 rest:∀ t,(∀ i o,i<n→L.getD i false=true→all[i]? = some o→o.dst≠some t)→s'.get t=s.get t
structure adH (all:Array Oper) (n:Nat) (qs:Nat→Option Nat):Prop where
 sees:∀ j i o o' q t,j<n→i<n→all[j]? = some o→all[i]? = some o'→qs i=some q→t∈o.looksAt all→o'.dst=some t→qs j=some q∨(qs j=none∧∀ i',i<i'→qs i'≠some q)
 line:∀ j i q,j<n→i<j→qs i=some q→qs j=some q→((masks all.toList []).getD j 0).testBit i=true
theorem AtA.le {n:Nat} {Q:List Nat} {qs:Nat→Option Nat} {S:Nat→St} {L:Array Bool} (H:nC C all n Q qs s S) (A:AtA all n Q qs S s s' L) (hall:∀ i,i<n→L.getD i false=true):St.le s' (S n):=by
 obtain ⟨f1,f2,f3,f4⟩:=H.frame n (aew _)
 have hcut:∀ q,Cut qs L q n:=fun q=>⟨fun j hj _=>hall j hj,fun j hj hq=>by rw [H.top j hj] at hq; cases hq⟩
 refine ⟨f1.trans A.sn.symm,fun t=>?_,fun t cs h=>⟨cs,by simpa [St.var,f2,A.sv] using h,rfl,fun _ _=>.same _⟩,fun i r h=>?_,fun r m h=>by simpa [St.map,f3,A.sm] using h,fun t=>by simp only [St.fH,f4,A.sg]; exact .same _⟩
 ·by_cases c:∃ (i:Nat) (o:Oper),i<n∧all[i]? = some o∧o.dst=some t
  ·obtain ⟨i,o,hi,ho,hd⟩:=c
   cases hq:qs i with
   | none=>rw [A.Ef i o t hi (hall i hi) ho hd hq,← (H.abk hi ho hd hq).2 n hi (aew _)]; exact .same _
   | some q=>rw [A.yJ i o t q n hi (hall i hi) ho hd hq hi (aew _) (hcut q)]; exact .same _
  ·have c':∀ i o,i<n→all[i]? = some o→o.dst≠some t:=fun i o hi ho hd=>c ⟨i,o,hi,ho,hd⟩
   rw [H.rest n (aew _) c',A.rest t (fun i o hi _ ho=>c' i o hi ho)]; exact .same _
 ·by_cases hi:i∈Q
  ·rw [A.Jp i n hi (aew _) (hcut i)]; exact h
  ·rw [A.Ee i hi,← H.rows hi n (aew _)]; exact h
theorem QW (Q:List Nat) (s:St) (i:Nat):(s.hide Q).row i=if Q.contains i then none else s.row i:=xB Q i s.rows
theorem YL {n:Nat} (D:H7 all n) {Q:List Nat} {qs:Nat→Option Nat} {S:Nat→St} (H:nC C all n Q qs s S) (O:adH all n qs) (hr:R C (.ops all (all.toList.drop n)::k) (S n)):
  ∀ (fuel:Nat) (L:Array Bool) (s':St) (a:Act) (w:World) (E:Env),AtA all n Q qs S s s' L→cnt L≤fuel→aF C s' a w E→wpAny C.P .any all (fin C k) fuel L a w:=by
 have apM:=D.le
 have hend:∀ (fuel:Nat) (L:Array Bool) (s':St) (a:Act) (w:World) (E:Env),AtA all n Q qs S s s' L→cnt L≤fuel→aF C s' a w E→(∀ i,i<n→L.getD i false=true)→wpAny C.P .any all (fin C k) fuel L a w:=by
  intro fuel L s' a w E A hcnt g hpure
  have hw:=hr a w E (g.weak (A.le H hpure))
  simp only [fin] at hw
  have hLd:∀ i,i<all.size→L.getD i false=decide (i<n):=by
   intro i hi
   by_cases c:i<n
   ·rw [hpure i c]; simp [c]
   ·rw [A.tail i (by omega)]; simp [c]
  have hc2:all.size - n≤cnt L:=by
   unfold cnt
   have e1:L.toList=L.toList.take n++L.toList.drop n:=(aj8 n _).symm
   rw [e1,ar7]
   have e2:(L.toList.drop n).countP (fun b=>!b)=(L.toList.drop n).length:=by
    rw [auX]
    intro b hb
    obtain ⟨q,hq,rfl⟩:=af2 hb
    have KA:n+q<L.size:=by simpa [Nat.lt_sub_iff_add_lt,aua] using hq
    have:=A.tail (n+q) (by omega)
    have h3:L.getD (n+q) false=L[n+q]:=by simp [Array.getD,KA]
    simp only [asB,Array.getElem_toList]
    rw [← h3,this]; rfl
   rw [e2]
   have:=A.size
   simp; omega
  exact Kz D _ n L fuel a w (aew _) (by simp; omega) (fun j=>by simp) (by simp; omega) A.size hLd hw
 intro fuel
 induction fuel with
 | zero=>
  intro L s' a w E A hcnt g
  have hall:=Qw (Nat.le_zero.1 hcnt)
  exact hend 0 L s' a w E A hcnt g fun i hi=>hall i (by rw [A.size]; omega)
 | succ fuel ih=>
  intro L s' a w E A hcnt g
  by_cases hpure:∀ i,i<n→L.getD i false=true
  ·exact hend _ L s' a w E A hcnt g hpure
  ·have hex:∃ i,i<n∧L.getD i false=false:=by
    apply atZ
    intro hno
    refine hpure fun i hi=>?_
    cases hb:L.getD i false with
    | true=>rfl
    | false=>exact (hno ⟨i,hi,hb⟩).elim
   obtain ⟨i0,⟨hi0,hf0⟩,hmin⟩:=exists_least (p:=fun i=>i<n∧L.getD i false=false) hex
   refine ⟨fun hnil=>?_,fun i hi=>?_⟩
   ·have hlt:i0<all.size:=by omega
    have ho0:all[i0]? = some all[i0]:=by simp [hlt]
    have:i0∈aqj .any all L:=mem_ready.2 ⟨by rw [iP (by rw [A.size]; exact hlt)]; exact hf0,all[i0],ho0,fun e he hb=>by
     have hel:=D.edge i0 _ ho0 e he hb
     cases hb2:L.getD e.on false with
     | true=>rfl
     | false=>have:=hmin e.on ⟨by omega,hb2⟩; omega⟩
    rw [hnil] at this; cases this
   ·obtain ⟨hun,o,ho,hall⟩:=mem_ready.1 hi
    have hlt:=(ad6.1 ho).1
    have MN:L.getD i false=false:=by rw [← iP (by rw [A.size]; exact hlt)]; exact hun
    have hin:i<n:=by
     rcases apf i n with h | h
     ·exact h
     ·have hbit:=D.tail i o h ho i0 (by omega)
      have:=(pU D A.closed A.size i o ho hall i0 hbit).1
      rw [hf0] at this; cases this
    have hset:∀ j,(L.setIfInBounds i true).getD j false=if j=i then true else L.getD j false:=by
     intro j
     by_cases c:j=i
     ·subst c; rw [adA rfl,pG (by rw [A.size]; exact hlt)]
     ·rw [adt c,getD_set_ne false (aqm c)]
    have hcl':∀ j o',(L.setIfInBounds i true).getD j false=true→all[j]? = some o'→∀ e∈o'.after,apr .any e=true→(L.setIfInBounds i true).getD e.on false=true:=by
     intro j o' hj ho' e he hb
     rw [hset] at hj ⊢
     split
     ·rfl
     ·split at hj
      ·rename_i h; subst h; rw [ho] at ho'; cases ho'; exact hall e he hb
      ·exact A.closed j o' hj ho' e he hb
    have hfu:cnt (L.setIfInBounds i true)≤fuel:=by have:=Ve (L:=L) (i:=i) (by rw [A.size]; exact hlt) MN; omega
    have hback:∀ q m,qs i≠some q→Cut qs (L.setIfInBounds i true) q m→Cut qs L q m:=by
     rintro q m hne ⟨h1,h2⟩
     refine ⟨fun j hj hq=>?_,fun j hj hq=>?_⟩
     ·have:=h1 j hj hq; rw [hset,adt (fun e:j=i=>hne (by rw [← e]; exact hq))] at this; exact this
     ·have:=h2 j hj hq; rw [hset,adt (fun e:j=i=>hne (by rw [← e]; exact hq))] at this; exact this
    have agw:∀ t∈o.looksAt all,(∀ q,qs i=some q→Cut qs L q i)→s'.get t=(S i).get t:=by
     intro t ht hcut
     by_cases c:∃ (j:Nat) (o':Oper),j<n∧all[j]? = some o'∧o'.dst=some t
     ·obtain ⟨j,o',hjn,ho',hd'⟩:=c
      have hbit:=D.look i o hin ho t ht j o' hjn ho' hd'
      obtain ⟨YM,hji⟩:=pU D A.closed A.size i o ho hall j hbit
      cases hqj:qs j with
      | none=>rw [A.Ef j o' t (by omega) YM ho' hd' hqj,(H.abk (by omega) ho' hd' hqj).2 i hji (by omega)]
      | some q=>
       rcases O.sees i j o o' q t hin (by omega) ho ho' hqj ht hd' with hqi | ⟨hqi,hlast⟩
       ·exact A.yJ j o' t q i (by omega) YM ho' hd' hqj hji (by omega) (hcut q hqi)
       ·refine A.yJ j o' t q i (by omega) YM ho' hd' hqj hji (by omega) ⟨fun j0 hj0 hq0=>?_,fun j0 hj0 hq0=>(hlast j0 (by omega) hq0).elim⟩
        rcases asC j0 j with h | rfl | h
        ·exact (pU D A.closed A.size j o' ho' (A.closed j o' YM ho') j0 (O.line j j0 q (by omega) h hq0 hqj)).1
        ·exact YM
        ·exact (hlast j0 h hq0).elim
     ·have c':∀ (j:Nat) (o':Oper),j<n→all[j]? = some o'→o'.dst≠some t:=fun j o' hj ho' hd'=>c ⟨j,o',hj,ho',hd'⟩
      rw [H.rest i (by omega) (fun j o' hj ho'=>c' j o' (by omega) ho'),A.rest t (fun j o' hj _ ho'=>c' j o' hj ho')]
    obtain ⟨f1,f2,f3,f4⟩:=H.frame i (by omega)
    rcases H.case hin ho with ⟨hqi,v,e,hY,hdo,apJ⟩ | ⟨q,r,x,hqi,hq,e,hx,hA,hdo,hne⟩
    ·
     have hlook:∀ t∈o.looksAt all,s'.get t=(S i).get t:=fun t ht=>agw t ht fun q h=>by rw [hqi] at h; cases h
     have hY1:YG C.dr C.P all { s' with rows:=((S i).hide Q).rows } o v:=hY.congr (s:=(S i).hide Q) (s':={ s' with rows:=((S i).hide Q).rows }) hlook (A.sv.trans f2.symm) rfl
     have hY':YG C.dr C.P all s' o v:=hY1.mono (s:={ s' with rows:=((S i).hide Q).rows }) (fun _=>rfl) rfl fun j r' hj=>by
      have hj:((S i).hide Q).row j=some r':=hj
      rw [QW] at hj
      split at hj
      ·cases hj
      ·rename_i hc
       have hjQ:j∉Q:=fun h=>hc (by simpa using h)
       rw [A.Ee j hjQ,← H.rows hjQ i (by omega)]; exact hj
     have hd':bP s' o:=fun t ht=>by rw [A.sn,← f1]; exact hdo t ht
     refine YG.step g ho hd' hY' fun u w' E' g'=>?_
     refine ih _ (s'.put o.dst v) _ w' E' ?_ hfu g'
     obtain ⟨p1,p2,p3,p4⟩:=AB s' o.dst v
     exact {
      size:=by simpa using A.size
      closed:=hcl'
      tail:=fun j hj=>by rw [hset,adt (by omega)]; exact A.tail j hj
      sn:=p1.trans A.sn
      sv:=p2.trans A.sv
      sm:=p3.trans A.sm
      sg:=p4.trans A.sg
      Ee:=fun j hj=>by rw [pV]; exact A.Ee j hj
      Jp:=fun q m hq hm hc=>by rw [pV]; exact A.Jp q m hq hm (hback q m (by rw [hqi]; simp) hc)
      Ef:=fun j o' t hj hL ho' hd hqj=>by
       rw [get_put]
       rw [hset] at hL
       by_cases c:j=i
       ·subst c; rw [ho] at ho'; cases ho'; rw [adA hd,e,get_put,adA hd]
       ·rw [adt c] at hL
        rw [adt (H.ne hj hin c ho' ho hd)]
        exact A.Ef j o' t hj hL ho' hd hqj
      yJ:=fun j o' t q m hj hL ho' hd hqj hjm hm hc=>by
       have c:j≠i:=fun e=>by rw [e,hqi] at hqj; cases hqj
       rw [hset,adt c] at hL
       rw [get_put,adt (H.ne hj hin c ho' ho hd)]
       exact A.yJ j o' t q m hj hL ho' hd hqj hjm hm (hback q m (by rw [hqi]; simp) hc)
      rest:=fun t hno=>by
       rw [get_put,adt (hno i o hin (by rw [hset,adA rfl]) ho)]
       exact A.rest t fun j o' hj hL ho'=>hno j o' hj (by rw [hset]; split; rfl; exact hL) ho' }
    ·
     have hcut:Cut qs L q i:=by
      refine ⟨fun j hj hqj=>?_,fun j hj hqj=>?_⟩
      ·exact (pU D A.closed A.size i o ho hall j (O.line i j q hin hj hqj hqi)).1
      ·cases hb:L.getD j false with
       | false=>rfl
       | true=>
        by_cases c:j=i
        ·subst c; rw [MN] at hb; cases hb
        ·have hjn:j<n:=by
          rcases apf j n with h | h
          ·exact h
          ·rw [A.tail j h] at hb; cases hb
         obtain ⟨o',ho'⟩:=H.op hjn
         have hbit:=O.line j i q hjn (by omega) hqi hqj
         have:=(pU D A.closed A.size j o' ho' (A.closed j o' hb ho') i hbit).1
         rw [MN] at this; cases this
     have hlook:∀ t∈o.looksAt all,s'.get t=(S i).get t:=fun t ht=>agw t ht fun q' h=>by rw [hqi] at h; cases h; exact hcut
     have hop:=R.afV (k:=k) (J:=fun st=>st=(s'.chain q r).put o.dst x) ho (hA s' (.aP (fun st=>st=(s'.chain q r).put o.dst x)::k) (A.sn.trans f1.symm) hlook (A.Jp q i hq (by omega) hcut) (R.nil (R.aP rfl))) g
     refine wpOp_mono (fun a' w' h'=>?_) hop
     obtain ⟨_,E',rfl,g'⟩:=h'
     refine ih _ _ a' w' E' ?_ hfu g'
     have hc:=H.clean q hq
     obtain ⟨p1,p2,p3,p4⟩:=AB (s'.chain q r) o.dst x
     have hcq:∀ m,m≤n→Cut qs (L.setIfInBounds i true) q m→i<m∧((S m).row q=(S (i+1)).row q∧∀ j o' t,j<i+1→j<n→all[j]? = some o'→o'.dst=some t→qs j=some q→(S m).get t=(S (i+1)).get t):=by
      rintro m hm ⟨h1,h2⟩
      have him:i<m:=by
       rcases apf i m with h | h
       ·exact h
       ·have:=h2 i h hqi; rw [hset,adA rfl] at this; cases this
      refine ⟨him,H.still m (by omega) hm fun j hj hjm hqj=>?_⟩
      have h3:=h1 j hjm hqj
      rw [hset,adt (by omega)] at h3
      rw [hcut.2 j (by omega) hqj] at h3; cases h3
     exact {
      size:=by simpa using A.size
      closed:=hcl'
      tail:=fun j hj=>by rw [hset,adt (by omega)]; exact A.tail j hj
      sn:=p1.trans A.sn
      sv:=p2.trans (by show asq _ s'.vars=_; rw [A.sv]; exact hc.2.1)
      sm:=p3.trans A.sm
      sg:=p4.trans (by show asq _ s'.gs=_; rw [A.sg]; exact hc.2.2)
      Ee:=fun j hj=>by rw [pV,xE,adt (fun e:j=q=>hj (by rw [e]; exact hq))]; exact A.Ee j hj
      Jp:=fun q' m hq' hm hcm=>by
       rw [pV,xE]
       by_cases c:q'=q
       ·subst c
        rw [adA rfl,(hcq m hm hcm).2.1,e,pV,xE,adA rfl]
       ·rw [adt c]
        exact A.Jp q' m hq' hm (hback q' m (by rw [hqi]; intro h; cases h; exact c rfl) hcm)
      Ef:=fun j o' t hj hL ho' hd hqj=>by
       have c:j≠i:=fun e=>by rw [e,hqi] at hqj; cases hqj
       rw [hset,adt c] at hL
       rw [get_put,adt (H.ne hj hin c ho' ho hd),oI,A.Ef j o' t hj hL ho' hd hqj]
       exact (H.abk hj ho' hd hqj).1 q hq
      yJ:=fun j o' t q' m hj hL ho' hd hqj hjm hm hcm=>by
       by_cases c:j=i
       ·subst c
        rw [ho] at ho'; cases ho'
        rw [hqi] at hqj; cases hqj
        rw [(hcq m hm hcm).2.2 j o t (by omega) hj ho hd hqi,get_put,adA hd,e,get_put,adA hd]
       ·rw [hset,adt c] at hL
        rw [get_put,adt (H.ne hj hin c ho' ho hd),oI]
        by_cases cq:q'=q
        ·subst cq
         have hji:j<i:=by
          rcases apf j i with h | h
          ·exact h
          ·rw [hcut.2 j h hqj] at hL; cases hL
         rw [(hcq m hm hcm).2.2 j o' t (by omega) hj ho' hd hqj,e,get_put,adt (H.ne hj hin c ho' ho hd),oI,A.yJ j o' t q' i hj hL ho' hd hqj hji (by omega) hcut]
        ·rw [A.yJ j o' t q' m hj hL ho' hd hqj hjm hm (hback q' m (by rw [hqi]; intro h; cases h; exact cq rfl) hcm)]
         exact adF cq (H.abl hj ho' hd hqj m hjm hm)
      rest:=fun t hno=>by
       rw [get_put,adt (hno i o hin (by rw [hset,adA rfl]) ho),oI,A.rest t fun j o' hj hL ho'=>hno j o' hj (by rw [hset]; split; rfl; exact hL) ho']
       exact hc.get t }
def QX (all:Array Oper) (qs:List (Option Nat)):Bool:=
 (agi qs.length).all fun j=>(agi qs.length).all fun i=>match qs.getD i none,all[j]?,all[i]? with
  | some q,some o,some o'=>(qs.getD j none == some q || (qs.getD j none == none&&(agi qs.length).all fun i'=>!decide (i<i') || qs.getD i' none != some q) || (match o'.dst with | some t=>!(o.looksAt all).contains t | none=>true))&&(!(qs.getD j none == some q) || !decide (i<j) || ((masks all.toList []).getD j 0).testBit i)
  | _,_,_=>true
theorem aeN {qs:List (Option Nat)} (hs:qs.length≤all.size) (h:QX all qs=true):adH all qs.length (fun i=>qs.getD i none):={
 sees:=fun j i o o' q t hj hi ho ho' hq ht hd=>by
  have h1:=(afX.1 ((afX.1 h) j (arh.2 hj))) i (arh.2 hi)
  simp only [hq,ho,ho',hd,af5,Bool.or_eq_true,aqc] at h1
  rcases h1.1 with (h2 | ⟨h2,h4⟩) | h2
  ·exact .inl h2
  ·refine .inr ⟨h2,fun i' hi' hq'=>?_⟩
   rcases apf i' qs.length with c | c
   ·have h5:=(afX.1 h4) i' (arh.2 c)
    simp only [hi',hq',apa,asw,avJ,atg] at h5
    cases h5
   ·simp [aax,c] at hq'
  ·have h3:(o.looksAt all).contains t=true:=by simpa using ht
   rw [h3] at h2; cases h2
 line:=fun j i q hj hij hqi hqj=>by
  have h1:=(afX.1 ((afX.1 h) j (arh.2 hj))) i (arh.2 (by omega))
  have hoj:all[j]? = some all[j]:=by simp [show j<all.size by omega]
  have hoi:all[i]? = some all[i]:=by simp [show i<all.size by omega]
  simp only [hqi,hqj,hoj,hoi,af5,Bool.or_eq_true] at h1
  rcases h1.2 with (h2 | h2) | h2
  ·simp at h2
  ·simp [hij] at h2
  ·exact h2 }
theorem QY (Q:List Nat) (qs:List (Option Nat)) (hB:xC all qs.length=true) (hA:QX all qs=true) (hc:∀ q∈Q,Clean q s)
  (h:nM C all Q (all.toList.drop qs.length) k ((all.toList.take qs.length).zip qs) s) {a:Act} {w:World} {E:Env} (g:aF C s a w E):wpAny C.P .any all (fin C k) all.size (afQ all.size false) a { w with drawn:=w.drawn+1 }:=by
 have D:=Ol hB
 obtain ⟨its,hl,hr,hy⟩:=nM.unfold _ _ _ h
 have hle:=D.le
 have hlen:((all.toList.take qs.length).zip qs).length=qs.length:=by simp; omega
 have hmap:((all.toList.take qs.length).zip qs).map (·.1)=all.toList.take qs.length:=List.map_fst_zip (by simp; omega)
 rw [hmap] at hr hy
 rw [hlen] at hl
 have H:nC C all qs.length Q (fun i=>qs.getD i none) s (fun m=>Ed s (((all.toList.take qs.length).zip its).take m)):={
  zero:=rfl
  step:=fun i o hi ho=>by
   have h1:(all.toList.take qs.length)[i]? = some o:=by rw [ap3,adA hi]; simpa using ho
   have h2:qs[i]? = some (qs.getD i none):=by rw [aax,af4 hi]; rfl
   obtain ⟨it,h3,h4⟩:=hy i o _ (avY.2 ⟨h1,h2⟩)
   refine ⟨it,?_,h4⟩
   have h5:((all.toList.take qs.length).zip its)[i]? = some (o,it):=avY.2 ⟨h1,h3⟩
   show Ed s (List.take (i+1) _)=_
   rw [List.take_add_one,h5,IJ]; rfl
  clean:=hc
  top:=fun i hi=>by simp [aax,hi]
  size:=hle
  dist:=fun i j o o' t hi hj ho ho' hd hd'=>D.dist i j o o' t hi hj ho ho' hd hd' }
 have hr':R C (.ops all (all.toList.drop qs.length)::k) (Ed s (((all.toList.take qs.length).zip its).take qs.length)):=by
  rw [adw (by simp; omega)]; exact hr
 refine YL D H (aeN hle hA) hr' all.size (afQ all.size false) s a _ E ?_ ?_ g.drew
 ·have hf:∀ i,(afQ all.size false).getD i false=false:=fun i=>by simp [Array.getD]
  exact {
   size:=by simp
   closed:=fun i o hi=>by rw [hf] at hi; cases hi
   tail:=fun i _=>hf i
   sn:=rfl
   sv:=rfl
   sm:=rfl
   sg:=rfl
   Ee:=fun _ _=>rfl
   Jp:=fun q m _ hm hcut=>((H.still m (arI _) hm fun j _ hj hq=>by have:=hcut.1 j hj hq; rw [hf] at this; cases this).1).symm
   Ef:=fun i o t _ hi=>by rw [hf] at hi; cases hi
   yJ:=fun i o t q m _ hi=>by rw [hf] at hi; cases hi
   rest:=fun _ _=>rfl }
 ·unfold cnt; exact ajk atm (by simp)
theorem R.akp {id:Nat} (Q:List Nat) (qs:List (Option Nat)) (hm:C.P.follows .mixedOrders=true) (hB:xC all qs.length=true) (hA:QX all qs=true) (hc:∀ q∈Q,Clean q s)
  (h:nM C all Q (all.toList.drop qs.length) k ((all.toList.take qs.length).zip qs) s):R C (.code (.region id all true)::k) s:=fun _ _ _ g=>wp_region_any hm (QY Q qs hB hA hc h g)
theorem adI {α:Type} (q:Nat) (x:α):∀ l:List (Nat × α),er q (up q x l)=er q l
 | []=>by simp [up,er]
 | (j,y)::l=>by
  simp only [up]
  by_cases h:j=q
  ·simp [h,er]
  ·simp [h,er,adI q x l]
theorem YN {α β:Type} (f:α→β) (t:Nat) (x:α):∀ l:List (Nat × α),(up t x l).map (fun p=>(p.1,f p.2))=up t (f x) (l.map fun p=>(p.1,f p.2))
 | []=>rfl
 | (j,y)::l=>by
  simp only [up,ads]
  by_cases h:j=t
  ·simp [h]
  ·simp [h,YN f t x l]
theorem zF (q:Nat) (r:Row):∀ x:SV,(x.aQ q).bT q r=x.aQ q
 | .own i=>by simp only [SV.aQ]; split <;> simp_all [SV.bT]
 | .iJ i _ _=>by simp only [SV.aQ]; split <;> simp_all [SV.bT]
 | .view i _=>by simp only [SV.aQ]; split <;> simp_all [SV.bT]
 | .gd c v=>by simp only [SV.aQ,SV.bT,zF q r v]
 | .kT t v=>by simp only [SV.aQ,SV.bT,zF q r v]
 | .pd _=>rfl
 | .ref _ _=>rfl
 | .aG _ _=>rfl
 | .box _=>rfl
 | .fn _=>rfl
 | .clo _ _=>rfl
 | .tpl _=>rfl
 | .dead=>rfl
theorem YO (s:St) (q:Nat) (r:Row) (d:Nat):(((s.newRow q r).put (some d) (.own q)).bT q r)=(s.chain q none).put (some d) (.pd (.list r.sz r.ds)):=by
 have h1:(SV.own q).bT q r = .pd (.list r.sz r.ds):=by simp [SV.bT]
 simp only [St.put,St.set,St.bT,St.newRow,St.chain,YN,h1,apC,adI]
 congr 1
 ·congr 1
  refine ajh fun p _=>?_
  simp only [arV,zF]
 ·refine ajh fun p _=>?_
  simp only [arV,apC]
  congr 1
  refine ajh fun x _=>?_
  simp only [arV,zF]
 ·refine ajh fun p _=>?_
  simp only [arV,zF]
theorem nM.empty {Q:List Nat} {tail:List Oper} {l:List (Oper × Option Nat)} {q d:Nat} {t e:TypeId} (hq:q∈Q) (hid:C.iH q=none) (ho:o.op = .buildSlice t 0 #[]) (hg:o.guard=none) (hd:o.dst=some d) (hn:d<s.n) (he:fA C.P t=some e) (hz:aO C.P e≠0) (hzero:(bM C.P e).isSome=true)
  (next:nM C all Q tail k l ((s.chain q (some ⟨e,aO C.P e,[]⟩)).put o.dst (.own q))):nM C all Q tail k ((o,some q)::l) s:=
 ⟨some ⟨e,aO C.P e,[]⟩,.own q,hq,.inl rfl,fun s' k' hn' _ _ h=>R.empty q hid ho hg hd (by rw [hn']; exact hn) he hz hzero (by rw [hd] at h; exact h),fun t ht=>by rw [hd] at ht; cases ht; exact hn,by rw [hd]; simp,next⟩
theorem IK {q a b sz:Nat} {t t' e:TypeId} {r:Row} {es:List PD} (ho:o.op = .call ⟨.builtin .append,#[.tmp a,.tmp b],#[t,t']⟩) (hg:o.guard=none) (hd:bP s o) (hx:s.get a = .own q) (hr:s.row q=some r) (hr0:C.iH q=none)
  (hy:s.get b = .pd (.list sz es)) (he:fA C.P t=some e) (hre:r.e=e) (hz:aO C.P e=r.sz) (h0:r.sz≠0) (hzero:(bM C.P e).map af0=some r.sz) (ht:t'=t)
  (hw:∀ i,i<es.length→(es.getD i (.ak [])).width=r.sz) (hb:(r.ds.length+es.length) * nJ C.P e≤140737488355328) (hm:r.ds.length+es.length≤maxLen)
  {s':St} {l:List Oper} (hn':s'.n=s.n) (hl:∀ t∈o.looksAt all,s'.get t=s.get t) (hrow:s'.row q=s.row q)
  (h:R C (.ops all l::k) ((s'.newRow q ⟨e,r.sz,r.ds++es⟩).put o.dst (.own q))):R C (.ops all (o::l)::k) s':=by
 have ha:s'.get a = .own q:=by rw [hl a (FH (by simp [ho,Op.operands,Call.operands]))]; exact hx
 have hb':s'.get b = .pd (.list sz es):=by rw [hl b (FH (by simp [ho,Op.operands,Call.operands]))]; exact hy
 exact R.append ho hg (fun t ht=>by rw [hn']; exact hd t ht) (by simp only [aU,ha]; rfl) (by rw [hrow]; exact hr) hr0 (by simp only [aU,hb']; rfl) he hre hz h0 hzero ht hw hb hm h
theorem nM.append {Q:List Nat} {tail:List Oper} {l:List (Oper × Option Nat)} {q a b sz d:Nat} {t t' e:TypeId} {r:Row} {es:List PD} (hq:q∈Q) (ho:o.op = .call ⟨.builtin .append,#[.tmp a,.tmp b],#[t,t']⟩) (hg:o.guard=none) (hd:o.dst=some d) (hn:d<s.n) (hx:s.get a = .own q) (hr:s.row q=some r) (hr0:C.iH q=none)
  (hy:s.get b = .pd (.list sz es)) (he:fA C.P t=some e) (hre:r.e=e) (hz:aO C.P e=r.sz) (h0:r.sz≠0) (hzero:(bM C.P e).map af0=some r.sz) (ht:t'=t)
  (hw:∀ i,i<es.length→(es.getD i (.ak [])).width=r.sz) (hb:(r.ds.length+es.length) * nJ C.P e≤140737488355328) (hm:r.ds.length+es.length≤maxLen)
  (next:nM C all Q tail k l ((s.chain q (some ⟨e,r.sz,r.ds++es⟩)).put o.dst (.own q))):nM C all Q tail k ((o,some q)::l) s:=
 have hdo:bP s o:=fun t ht=>by rw [hd] at ht; cases ht; exact hn
 ⟨some ⟨e,r.sz,r.ds++es⟩,.own q,hq,.inl rfl,fun _ _ hn' hl hrow h=>IK ho hg hdo hx hr hr0 hy he hre hz h0 hzero ht hw hb hm hn' hl hrow h,hdo,by rw [hd]; simp,next⟩
theorem nM.aeO {Q:List Nat} {tail:List Oper} {l:List (Oper × Option Nat)} {q a b sz d:Nat} {t t' e:TypeId} {r:Row} {es:List PD} (hq:q∈Q) (ho:o.op = .call ⟨.builtin .append,#[.tmp a,.tmp b],#[t,t']⟩) (hg:o.guard=none) (hd:o.dst=some d) (hn:d<s.n) (hx:s.get a = .own q) (hr:s.row q=some r) (hr0:C.iH q=none)
  (hy:s.get b = .pd (.list sz es)) (he:fA C.P t=some e) (hre:r.e=e) (hz:aO C.P e=r.sz) (h0:r.sz≠0) (hzero:(bM C.P e).map af0=some r.sz) (ht:t'=t)
  (hw:∀ i,i<es.length→(es.getD i (.ak [])).width=r.sz) (hb:(r.ds.length+es.length) * nJ C.P e≤140737488355328) (hm:r.ds.length+es.length≤maxLen)
  (next:nM C all Q tail k l ((s.chain q none).put o.dst (.pd (.list r.sz (r.ds++es))))):nM C all Q tail k ((o,some q)::l) s:=
 have hdo:bP s o:=fun t ht=>by rw [hd] at ht; cases ht; exact hn
 ⟨none,.pd (.list r.sz (r.ds++es)),hq,.inr (.inr ⟨_,rfl⟩),fun s' k' hn' hl hrow h=>by
  refine IK ho hg hdo hx hr hr0 hy he hre hz h0 hzero ht hw hb hm hn' hl hrow ?_
  refine R.bT q (r:=⟨e,r.sz,r.ds++es⟩) hr0 (by rw [pV,St.iK,adA rfl]) ?_
  rw [hd] at h ⊢
  rw [YO]; exact h,hdo,by rw [hd]; simp,next⟩
def vC (Q:List Nat):SV→Prop
 | .own i=>Q.contains i=false
 | .iJ i _ _=>Q.contains i=false
 | .view i _=>Q.contains i=false
 | .gd _ v=>vC Q v
 | .kT _ v=>vC Q v
 | _=>True
theorem Jq {Q:List Nat} {q:Nat} (hq:q∈Q):∀ x:SV,vC Q x→x.aQ q=x
 | .own i,h=>by simp only [SV.aQ]; rw [adt]; rintro rfl; simp [vC,hq] at h
 | .iJ i _ _,h=>by simp only [SV.aQ]; rw [adt]; rintro rfl; simp [vC,hq] at h
 | .view i _,h=>by simp only [SV.aQ]; rw [adt]; rintro rfl; simp [vC,hq] at h
 | .gd c v,h=>by simp only [SV.aQ,Jq hq v h]
 | .kT t v,h=>by simp only [SV.aQ,Jq hq v h]
 | .pd _,_=>rfl
 | .ref _ _,_=>rfl
 | .aG _ _,_=>rfl
 | .box _,_=>rfl
 | .fn _,_=>rfl
 | .clo _ _,_=>rfl
 | .tpl _,_=>rfl
 | .dead,_=>rfl
def H8 (Q:List Nat) (l:List (Nat × Row)) (i:Nat):Option Row:=if Q.contains i then none else lk i l
def KC (C:Cx) (all:Array Oper) (Q:List Nat) (tail:List Oper) (k:List KI):Nat→List (Oper × Option Nat)→St→Prop
 | 0,l,s=>nM C all Q tail k l s
 | _+1,[],s=>R C (.ops all tail::k) s
 | n+1,(o,none)::l,s=>match o.guard with
  | none=>match ay C.P (aU s) s.var (H8 Q s.rows) o.op with
   | some (vc,v)=>vc∧fM s o∧vC Q v.unbox∧KC C all Q tail k n l (s.put o.dst v.unbox)
   | none=>match o.op with
    | .buildSlice t m parts=>match fA C.P t,nO (parts.toList.map fun p=>aU s p.2) with
     | some e,some ds=>aO C.P e≠0∧m * aO C.P e≤16777216∧seqB 0 m (parts.toList.map (·.1))=true∧DZ (aO C.P e) ds∧(bM C.P e).isSome=true∧fM s o∧KC C all Q tail k n l (s.put o.dst (.pd (.list (aO C.P e) ds)))
     | _,_=>nM C all Q tail k ((o,none)::l) s
    | _=>nM C all Q tail k ((o,none)::l) s
  | some _=>nM C all Q tail k ((o,none)::l) s
 | _+1,(o,some q)::l,s=>nM C all Q tail k ((o,some q)::l) s
theorem Dh {Q:List Nat} {tail:List Oper}:∀ (n:Nat) (l:List (Oper × Option Nat)) (s:St),KC C all Q tail k n l s→nM C all Q tail k l s
 | 0,l,s,h=>h
 | _+1,[],s,h=>h
 | _+1,(o,some q)::l,s,h=>h
 | n+1,(o,none)::l,s,h=>by
  have hrow:(s.hide Q).row=H8 Q s.rows:=funext fun i=>QW Q s i
  simp only [KC] at h
  split at h
  ·rename_i hg
   split at h
   ·rename_i vc v hay
    exact ⟨_,.inl ⟨hg,.op vc v (by rw [hrow]; exact hay) h.1⟩,ah h.2.1,fun q hq=>Jq hq _ h.2.2.1,Dh n l _ h.2.2.2⟩
   ·split at h
    ·rename_i t m parts ho
     split at h
     ·rename_i e ds he hd
      obtain ⟨h1,h2,h3,h4,h5,h6,h7⟩:=h
      exact ⟨_,.inl ⟨hg,.slice t e m _ parts ds ho he rfl h1 h2 (yY h3) hd (MV h4 (by have:=nV hd; have h9:=congrArg af0 (yY h3); simp at this h9; omega)) h5⟩,ah h6,fun _ _=>rfl,Dh n l _ h7⟩
     ·exact h
    ·exact h
  ·exact h
theorem R.agx {id:Nat} (Q:List Nat) (qs:List (Option Nat)) (m:Nat) (hm:C.P.follows .mixedOrders=true) (hB:xC all qs.length=true) (hA:QX all qs=true) (hc:∀ q∈Q,Clean q s)
  (h:KC C all Q (all.toList.drop qs.length) k m ((all.toList.take qs.length).zip qs) s):R C (.code (.region id all true)::k) s:=
 R.akp Q qs hm hB hA hc (Dh m _ s h)
theorem abm (s:St):s.hide []=s:=by
 unfold St.hide
 rw [aql.2 (by simp)]
theorem RY.toA {tail:List Oper}:∀ (l:List Oper) (s:St),RY C all tail k l s→nM C all [] tail k (l.map fun o=>(o,none)) s
 | [],_,h=>h
 | o::l,s,⟨v,h1,h2,h3⟩=>⟨v,by rwa [abm],h2,fun q hq=>by simp at hq,RY.toA l _ h3⟩
theorem QZ (n m:Nat) (hB:xC all n=true) (h:CY C all (all.toList.drop n) k m (all.toList.take n) s) {a:Act} {w:World} {E:Env} (g:aF C s a w E):wpAny C.P .any all (fin C k) all.size (afQ all.size false) a { w with drawn:=w.drawn+1 }:=by
 have hle:=(Ol hB).le
 have hl:(am9 n (none:Option Nat)).length=n:=asj
 have hn:∀ i,(am9 n (none:Option Nat)).getD i none=none:=fun i=>by
  rw [aax,aqT]; split <;> rfl
 have hz:(all.toList.take n).zip (am9 n (none:Option Nat))=(all.toList.take n).map fun o=>(o,none):=by
  apply am8
  ·simp
  ·intro i h1 h2; simp
 refine QY [] (am9 n none) (by rw [hl]; exact hB) ?_ (fun q hq=>by simp at hq) ?_ g
 ·unfold QX
  simp only [hn,afX,av7]
 ·rw [hl,hz]
  exact RY.toA _ _ (aZ m _ s h)
theorem R.dA {id:Nat} (n m:Nat) (hm:C.P.follows .mixedOrders=true) (hB:xC all n=true) (h:CY C all (all.toList.drop n) k m (all.toList.take n) s):R C (.code (.region id all true)::k) s:=fun _ _ _ g=>wp_region_any hm (QZ n m hB h g)
end
end Go.au
end
section
namespace Go.Proofs.Z
structure W where
 pos:List Int
 neg:List Int
deriving DecidableEq
def bZ (a b:Int):Int:=if a<b then -1 else if b<a then 1 else 0
def IL (l:List Int):Int:=(l.find? (· != 0)).getD 0
def cmpL:List Int→List Int→Int
 | [],[]=>0
 | [],_::_=>-1
 | _::_,[]=>1
 | x::l,y::m=>if bZ x y≠0 then bZ x y else cmpL l m
def vF (a b:W):Int:=IL [cmpL a.pos b.pos,cmpL a.neg b.neg]
def dH (w:W):Int:=((w.pos.length+w.neg.length:Nat):Int)
def Jr (a b:W):Int:=IL [dH a - dH b,vF a b]
def dn (set:List Int) (w:W):Bool:=!w.neg.any (set.contains ·)&&w.pos.all (set.contains ·)
theorem sO {α:Type} {lt:α→α→Prop} (asymm:∀ a b,lt a b→lt b a→False):∀ {l m:List α},l.Pairwise lt→m.Pairwise lt→(∀ x,x∈l↔x∈m)→l=m
 | [],[],_,_,_=>rfl
 | [],y::m,_,_,h=>by have:=(h y).2 (by simp); simp at this
 | x::l,[],_,_,h=>by have:=(h x).1 (by simp); simp at this
 | x::l,y::m,hl,hm,h=>by
  rw [aqy] at hl hm
  have e:x=y:=by
   have h1:=(h x).1 (by simp)
   have h2:=(h y).2 (by simp)
   rw [agB] at h1 h2
   rcases h1 with h1 | h1
   ·exact h1
   ·rcases h2 with h2 | h2
    ·exact h2.symm
    ·exact (asymm _ _ (hl.1 y h2) (hm.1 x h1)).elim
  subst e
  congr 1
  refine sO asymm hl.2 hm.2 fun z=>⟨fun hz=>?_,fun hz=>?_⟩
  ·have:=(h z).1 (by simp [hz])
   rw [agB] at this
   rcases this with rfl | h'
   ·exact (asymm _ _ (hl.1 z hz) (hl.1 z hz)).elim
   ·exact h'
  ·have:=(h z).2 (by simp [hz])
   rw [agB] at this
   rcases this with rfl | h'
   ·exact (asymm _ _ (hm.1 z hz) (hm.1 z hz)).elim
   ·exact h'
def vG {α:Type} (c:α→α→Int) (x:α):List α→List α
 | []=>[x]
 | y::l=>if c x y<0 then x::y::l else if c x y=0 then y::l else y::vG c x l
def nY {α:Type} (c:α→α→Int) (l:List α):List α:=l.foldr (vG c) []
structure Order {α:Type} (c:α→α→Int):Prop where
 eq:∀ a b,c a b=0↔a=b
 flip:∀ a b,c a b<0↔0<c b a
 trans:∀ a b d,c a b<0→c b d<0→c a d<0
theorem Order.asymm {α:Type} {c:α→α→Int} (h:Order c) (a b:α) (h1:c a b<0) (h2:c b a<0):False:=by
 have:=(h.flip a b).1 h1; omega
theorem FP {α:Type} {c:α→α→Int} (h:Order c) (x z:α):∀ l,z∈vG c x l↔z=x∨z∈l
 | []=>by simp [vG]
 | y::l=>by
  simp only [vG]
  split
  ·simp
  ·split
   ·rename_i e; have:=(h.eq x y).1 e; subst this
    simp only [agB]; constructor
    ·rintro (h | h) <;> simp [h]
    ·rintro (h | h | h) <;> simp [h]
   ·simp only [agB,FP h x z l]; constructor
    ·rintro (h | h | h) <;> simp [h]
    ·rintro (h | h | h) <;> simp [h]
theorem FQ {α:Type} {c:α→α→Int} (h:Order c) (x:α):∀ {l},l.Pairwise (fun a b=>c a b<0)→(vG c x l).Pairwise (fun a b=>c a b<0)
 | [],_=>by simp [vG]
 | y::l,hl=>by
  have hl':=hl
  rw [aqy] at hl
  simp only [vG]
  split
  ·rename_i hlt
   rw [aqy]
   refine ⟨fun z hz=>?_,hl'⟩
   rw [agB] at hz
   rcases hz with rfl | hz
   ·exact hlt
   ·exact h.trans _ _ _ hlt (hl.1 z hz)
  ·split
   ·exact hl'
   ·rename_i h1 h2
    rw [aqy]
    refine ⟨fun z hz=>?_,FQ h x hl.2⟩
    rw [FP h] at hz
    rcases hz with rfl | hz
    ·exact (h.flip _ _).2 (by omega)
    ·exact hl.1 z hz
theorem qZ {α:Type} {c:α→α→Int} (h:Order c) (z:α):∀ l,z∈nY c l↔z∈l
 | []=>by simp [nY]
 | x::l=>by
  have ih:=qZ h z l
  simp only [nY,List.foldr_cons,FP h,agB] at ih ⊢
  rw [ih]
theorem jH {α:Type} {c:α→α→Int} (h:Order c):∀ l,(nY c l).Pairwise (fun a b=>c a b<0)
 | []=>by simp [nY]
 | x::l=>FQ h x (jH h l)
theorem x9 {α:Type} {c:α→α→Int} (h:Order c) {l m:List α} (hm:m.Pairwise (fun a b=>c a b<0)) (hx:∀ x,x∈m↔x∈l):m=nY c l:=
 sO (fun a b h1 h2=>h.asymm a b h1 h2) hm (jH h l) fun x=>by rw [hx,qZ h]
theorem dL:Order bZ where
 eq a b:=by unfold bZ; split <;> (try split) <;> omega
 flip a b:=by unfold bZ; split <;> (try split) <;> (try split) <;> (try split) <;> omega
 trans a b d:=by unfold bZ; intro h1 h2; split at h1 <;> (try split at h1) <;> split at h2 <;> (try split at h2) <;> first | omega | (rw [adA (by omega)]; omega) | rw [adA (by omega)]
theorem mP:Order cmpL where
 eq:=by
  intro a
  induction a with
  | nil=>intro b; cases b <;> simp [cmpL]
  | cons x l ih=>
   intro b
   cases b with
   | nil=>simp [cmpL]
   | cons y m=>
    simp only [cmpL,aau]
    split
    ·rename_i h; constructor
     ·intro h'; exact (h h').elim
     ·rintro ⟨rfl,_⟩; exact (h ((dL.eq _ _).2 rfl)).elim
    ·rename_i h
     have h:bZ x y=0:=by simpa using h
     rw [ih]; have:=(dL.eq x y).1 h; simp [this]
 flip:=by
  intro a
  induction a with
  | nil=>intro b; cases b <;> simp [cmpL]
  | cons x l ih=>
   intro b
   cases b with
   | nil=>simp [cmpL]
   | cons y m=>
    simp only [cmpL]
    by_cases h:bZ x y=0
    ·have e:=(dL.eq x y).1 h; subst e
     have h0:bZ x x=0:=h
     simp only [h0,ne_eq,arR,ajs]; exact ih m
    ·have h':bZ y x≠0:=fun e=>h ((dL.eq x y).2 ((dL.eq y x).1 e).symm)
     rw [adA h,adA h']; exact dL.flip x y
 trans:=by
  intro a
  induction a with
  | nil=>
   intro b d h1 h2
   cases d with
   | nil=>cases b <;> simp [cmpL] at h1 h2
   | cons z n=>simp [cmpL]
  | cons x l ih=>
   intro b d h1 h2
   cases b with
   | nil=>simp [cmpL] at h1
   | cons y m=>
    cases d with
    | nil=>simp [cmpL] at h2
    | cons z n=>
     simp only [cmpL] at h1 h2 ⊢
     by_cases hxy:bZ x y=0
     ·have e:=(dL.eq x y).1 hxy; subst e
      rw [adt (by simpa using hxy)] at h1
      by_cases hxz:bZ x z=0
      ·rw [adt (by simpa using hxz)] at h2 ⊢; exact ih _ _ h1 h2
      ·rw [adA hxz] at h2 ⊢; exact h2
     ·rw [adA hxy] at h1
      by_cases hyz:bZ y z=0
      ·have e:=(dL.eq y z).1 hyz; subst e
       rw [adA hxy]; exact h1
      ·rw [adA hyz] at h2
       have h3:=dL.trans _ _ _ h1 h2
       rw [adA (by omega)]; exact h3
theorem Vm (a b:Int):IL [a,b]=if a=0 then b else a:=by
 unfold IL
 by_cases h:a=0
 ·by_cases h2:b=0
  ·simp [ay9,h,h2]
  ·simp [ay9,h,show (b != 0)=true by simpa using h2]
 ·simp [ay9,h,show (a != 0)=true by simpa using h]
theorem Eh {α:Type} {c d:α→α→Int} (c0:∀ a,c a a=0) (cf:∀ a b,c a b<0↔0<c b a) (ct:∀ a b e,c a b<0→c b e<0→c a e<0) (ce:∀ a b e,c a b=0→(c a e=c b e∧c e a=c e b))
  (de:∀ a b,c a b=0→(d a b=0↔a=b)) (df:∀ a b,d a b<0↔0<d b a) (dt:∀ a b e,d a b<0→d b e<0→d a e<0):Order (fun a b=>if c a b=0 then d a b else c a b) where
 eq a b:=by
  constructor
  ·intro h
   by_cases h0:c a b=0
   ·rw [adA h0] at h; exact (de a b h0).1 h
   ·rw [adt h0] at h; exact (h0 h).elim
  ·rintro rfl; rw [adA (c0 a)]; exact (de a a (c0 a)).2 rfl
 flip a b:=by
  have h1:=cf a b; have h2:=cf b a
  by_cases h0:c a b=0
  ·have h0':c b a=0:=by omega
   rw [adA h0,adA h0']; exact df a b
  ·have h0':c b a≠0:=by omega
   rw [adt h0,adt h0']; exact h1
 trans a b e h1 h2:=by
  by_cases ab:c a b=0
  ·rw [adA ab] at h1
   have:=(ce a b e ab).1
   by_cases be:c b e=0
   ·rw [adA be] at h2; rw [adA (by omega)]; exact dt _ _ _ h1 h2
   ·rw [adt be] at h2; rw [adt (by omega)]; omega
  ·rw [adt ab] at h1
   by_cases be:c b e=0
   ·have:=(ce b e a be).2
    rw [adt (by omega)]; omega
   ·rw [adt be] at h2
    have:=ct _ _ _ h1 h2
    rw [adt (by omega)]; exact this
theorem aeP:vF=fun a b=>if cmpL a.pos b.pos=0 then cmpL a.neg b.neg else cmpL a.pos b.pos:=by funext a b; exact Vm _ _
theorem gZ:Order vF:=by
 rw [aeP]
 refine Eh (c:=fun a b:W=>cmpL a.pos b.pos) (d:=fun a b:W=>cmpL a.neg b.neg) (fun a=>(mP.eq _ _).2 rfl) (fun a b=>mP.flip _ _) (fun a b e=>mP.trans _ _ _) (fun a b e h=>?_) (fun a b h=>?_) (fun a b=>mP.flip _ _) (fun a b e=>mP.trans _ _ _)
 ·have:=(mP.eq _ _).1 h; simp [this]
 ·have h:=(mP.eq _ _).1 h
  rw [mP.eq]; cases a; cases b; simp at h ⊢; simp [h]
theorem Vo:Jr=fun a b=>if dH a - dH b=0 then vF a b else dH a - dH b:=by funext a b; exact Vm _ _
theorem Wy:Order Jr:=by
 rw [Vo]
 refine Eh (c:=fun a b:W=>dH a - dH b) (d:=vF) (fun a=>by omega) (fun a b=>by omega) (fun a b e=>by omega) (fun a b e h=>by omega) (fun a b h=>gZ.eq a b) gZ.flip gZ.trans
def rP (l:List Int):List Int:=nY bZ l
theorem sZ (x:Int) (l:List Int):x∈rP l↔x∈l:=qZ dL x l
theorem Q5 (a b:Int):bZ a b<0↔a<b:=by unfold bZ; split <;> (try split) <;> omega
theorem rZ (l:List Int):(rP l).Pairwise (· < ·):=(jH dL l).imp fun h=>(Q5 _ _).1 h
theorem IQ {l m:List Int} (hm:m.Pairwise (· < ·)) (hx:∀ x,x∈m↔x∈l):m=rP l:=x9 dL (hm.imp fun h=>(Q5 _ _).2 h) hx
theorem Om {l:List Int} (h:l.Pairwise (· < ·)):rP l=l:=(IQ h fun _=>Iff.rfl).symm
def iQ (w:W):W:=⟨rP w.pos,rP w.neg⟩
def ig (w:W):Bool:=!w.pos.any (w.neg.contains ·)
def dY (a b:W):Bool:=a.pos.all (b.pos.contains ·)&&a.neg.all (b.neg.contains ·)
def dZ (l:List W):List W:=(l.map iQ).filter ig
def WA (l:List W) (x:W):Bool:=l.all fun y=>!dY y x || y == x
def bC (l:List W):List W:=nY vF ((dZ l).filter (WA (dZ l)))
def Norm (w:W):Prop:=w.pos.Pairwise (· < ·)∧w.neg.Pairwise (· < ·)
theorem WB (w:W):Norm (iQ w):=⟨rZ _,rZ _⟩
theorem kD {l:List W} {x:W} (h:x∈dZ l):Norm x:=by
 simp only [dZ,ana,adE] at h
 obtain ⟨⟨w,_,rfl⟩,_⟩:=h; exact WB w
theorem KD {w:W} (h:Norm w):iQ w=w:=by cases w; simp [iQ,Om h.1,Om h.2]
theorem gB (a b:W):dY a b=true↔(∀ x∈a.pos,x∈b.pos)∧(∀ x∈a.neg,x∈b.neg):=by
 simp [dY,afX]
theorem Q7 (l:List W) (x:W):WA l x=true↔∀ y∈l,dY y x=true→y=x:=by
 simp only [WA,afX,Bool.or_eq_true,ap8,aqc]
 constructor
 ·intro h y hy hp; rcases h y hy with h | h
  ·rw [hp] at h; cases h
  ·exact h
 ·intro h y hy
  cases hp:dY y x with
  | false=>exact .inl rfl
  | true=>exact .inr (h y hy hp)
theorem jX (l:List W) (x:W):x∈bC l↔x∈dZ l∧∀ y∈dZ l,dY y x=true→y=x:=by
 rw [bC,qZ gZ,ana,Q7]
theorem BN {l m:List W} (hm:m.Pairwise (fun a b=>vF a b<0)) (hx:∀ x,x∈m↔x∈dZ l∧∀ y∈dZ l,dY y x=true→y=x):m=bC l:=
 x9 gZ hm fun x=>by rw [hx,ana,Q7]
theorem WC {l m:List W} (h:∀ x,x∈dZ l↔x∈dZ m):bC l=bC m:=by
 refine BN (jH gZ _) fun x=>?_
 show x∈bC l↔_
 rw [jX,h]
 constructor
 ·rintro ⟨h1,h2⟩; exact ⟨h1,fun y hy=>h2 y ((h y).2 hy)⟩
 ·rintro ⟨h1,h2⟩; exact ⟨h1,fun y hy=>h2 y ((h y).1 hy)⟩
theorem su {a b c:W} (h1:dY a b=true) (h2:dY b c=true):dY a c=true:=by
 rw [gB] at *; exact ⟨fun x hx=>h2.1 x (h1.1 x hx),fun x hx=>h2.2 x (h1.2 x hx)⟩
theorem mQ (a:W):dY a a=true:=by rw [gB]; exact ⟨fun _ h=>h,fun _ h=>h⟩
theorem H9:∀ {l m:List Int},l.Pairwise (· < ·)→m.Pairwise (· < ·)→(∀ x∈l,x∈m)→l.length≤m.length∧(l.length=m.length→l=m)
 | [],m,_,_,_=>by
  refine ⟨by simp,fun h=>?_⟩
  cases m with
  | nil=>rfl
  | cons _ _=>simp at h
 | x::l,[],_,_,h=>by have:=h x (by simp); simp at this
 | x::l,y::m,hl,hm,h=>by
  have hl0:=hl; have hm0:=hm
  rw [aqy] at hl hm
  by_cases e:x=y
  ·subst e
   have ih:=H9 hl.2 hm.2 (fun z hz=>by
    have:=h z (by simp [hz])
    rw [agB] at this
    rcases this with rfl | h'
    ·have:=hl.1 z hz; omega
    ·exact h')
   refine ⟨by simp; omega,fun h'=>?_⟩
   rw [ih.2 (by simpa using h')]
  ·have hy:y<x:=by
    have:=h x (by simp)
    rw [agB] at this
    rcases this with rfl | h'
    ·exact (e rfl).elim
    ·exact hm.1 x h'
   have ih:=H9 hl0 hm.2 (fun z hz=>by
    have:=h z hz
    rw [agB] at this
    rcases this with rfl | h'
    ·rw [agB] at hz
     rcases hz with rfl | hz
     ·omega
     ·have:=hl.1 z hz; omega
    ·exact h')
   refine ⟨by simp only [afM] at *; omega,fun h'=>?_⟩
   have:=ih.1
   simp only [afM] at *; omega
theorem oM {a b:W} (ha:Norm a) (hb:Norm b) (h:dY a b=true):dH a≤dH b∧(dH a=dH b→a=b):=by
 rw [gB] at h
 have h1:=H9 ha.1 hb.1 h.1
 have h2:=H9 ha.2 hb.2 h.2
 unfold dH
 refine ⟨by omega,fun e=>?_⟩
 cases a; cases b
 simp only [W.mk.injEq]
 exact ⟨h1.2 (by omega),h2.2 (by omega)⟩
theorem FT {l:List W}:∀ (n:Nat) {x:W},dH x≤n→x∈dZ l→∃ y∈bC l,dY y x=true
 | 0,x,hn,hx=>by
  refine ⟨x,(jX l x).2 ⟨hx,fun y hy hp=>?_⟩,mQ x⟩
  have:=oM (kD hy) (kD hx) hp
  exact this.2 (by unfold dH at *; omega)
 | n+1,x,hn,hx=>by
  by_cases h:∀ y∈dZ l,dY y x=true→y=x
  ·exact ⟨x,(jX l x).2 ⟨hx,h⟩,mQ x⟩
  ·simp only [Classical.not_forall] at h
   obtain ⟨y,hy,hp,hne⟩:=h
   have:=oM (kD hy) (kD hx) hp
   obtain ⟨z,hz,hzp⟩:=FT n (x:=y) (by
    have:dH y≠dH x:=fun e=>hne (this.2 e)
    omega) hy
   exact ⟨z,hz,su hzp hp⟩
theorem gQ (set:List Int) (w:W):dn set w=true↔(∀ x∈w.neg,x∉set)∧∀ x∈w.pos,x∈set:=by
 simp [dn,apY,afX]
theorem BO (set:List Int) (w:W):dn set (iQ w)=dn set w:=by
 rw [ap5,gQ,gQ]; simp [iQ,sZ]
theorem Uy {set:List Int} {w:W} (h:dn set w=true):ig w=true:=by
 rw [gQ] at h
 simp only [ig,ap8,apY,arC]
 intro x hx hn; exact h.1 x hn (h.2 x hx)
theorem Uz {set:List Int} {a b:W} (hp:dY a b=true) (h:dn set b=true):dn set a=true:=by
 rw [gQ] at *; rw [gB] at hp
 exact ⟨fun x hx=>h.1 x (hp.2 x hx),fun x hx=>h.2 x (hp.1 x hx)⟩
theorem YP (set:List Int) (l:List W):(bC l).any (dn set)=l.any (dn set):=by
 rw [ap5,aqk,aqk]
 constructor
 ·rintro ⟨x,hx,h⟩
  have:=((jX l x).1 hx).1
  simp only [dZ,ana,adE] at this
  obtain ⟨⟨w,hw,rfl⟩,_⟩:=this
  exact ⟨w,hw,by rwa [BO] at h⟩
 ·rintro ⟨w,hw,h⟩
  have hn:iQ w∈dZ l:=by
   simp only [dZ,ana,adE]
   exact ⟨⟨w,hw,rfl⟩,Uy (set:=set) (by rwa [BO])⟩
  obtain ⟨y,hy,hp⟩:=FT (dH (iQ w)).toNat (x:=iQ w) (by unfold dH; omega) hn
  exact ⟨y,hy,Uz hp (by rwa [BO])⟩
theorem abn {l m:List W} (h:∀ x,x∈l↔x∈m):bC l=bC m:=WC fun x=>by simp only [dZ,ana,adE,h]
theorem KE (l:List W) (x:W):x∈dZ (bC l)↔x∈bC l:=by
 simp only [dZ,ana,adE]
 constructor
 ·rintro ⟨⟨w,hw,rfl⟩,_⟩
  rw [KD (kD ((jX l w).1 hw).1)]; exact hw
 ·intro h
  have h1:=((jX l x).1 h).1
  refine ⟨⟨x,h,KD (kD h1)⟩,?_⟩
  simp only [dZ,ana] at h1; exact h1.2
theorem YQ (l:List W):bC (bC l)=bC l:=by
 refine (BN (jH gZ _) fun x=>?_).symm
 show x∈bC l↔_
 rw [KE]
 constructor
 ·intro h; exact ⟨h,fun y hy hp=>((jX l x).1 h).2 y ((jX l y).1 ((KE l y).1 hy)).1 hp⟩
 ·exact fun h=>h.1
def keepW (out:List W):List W→List W
 | []=>out
 | w::l=>keepW (if out.any (dY · w) then out else out++[w]) l
theorem Ei:∀ (l done out:List W),(∀ x∈done++l,Norm x)→(done++l).Pairwise (fun a b=>Jr b a<0→False) →
  (∀ x,x∈out↔x∈done∧∀ y∈done,dY y x=true→y=x)→out.Nodup →
  (keepW out l).Nodup∧∀ x,x∈keepW out l↔x∈done++l∧∀ y∈done++l,dY y x=true→y=x
 | [],done,out,_,_,h,hn=>by simpa [keepW] using ⟨hn,h⟩
 | w::l,done,out,KF,hs,h,hn=>by
  have e:done++w::l=(done++[w])++l:=by simp
  rw [e] at KF hs ⊢
  have hw:Norm w:=KF w (by simp)
  have hdone:∀ x∈done,Norm x:=fun x hx=>KF x (by simp [hx])
  have hord:∀ x∈done,Jr w x<0→False:=by
   intro x hx
   rw [au8] at hs
   have:=(au8.1 hs.1).2.2 x hx w (by simp)
   exact this
  have hle:∀ x∈done,dH x≤dH w:=by
   intro x hx
   by_cases c:dH w<dH x
   ·exact (hord x hx (by rw [Vo]; simp only; rw [adt (by omega)]; omega)).elim
   ·omega
  have hback:∀ x∈done,dY w x=true→w=x:=by
   intro x hx hp
   have h1:=oM hw (hdone x hx) hp
   exact h1.2 (by have:=hle x hx; omega)
  have hbelow:∀ (n:Nat) (x:W),dH x≤n→x∈done→∃ y∈out,dY y x=true:=by
   intro n
   induction n with
   | zero=>
    intro x hx0 hx
    refine ⟨x,(h x).2 ⟨hx,fun y hy hp=>?_⟩,mQ x⟩
    have h1:=oM (hdone y hy) (hdone x hx) hp
    exact h1.2 (by have:=h1.1; unfold dH at *; omega)
   | succ n ih=>
    intro x hxn hx
    by_cases hc:∀ y∈done,dY y x=true→y=x
    ·exact ⟨x,(h x).2 ⟨hx,hc⟩,mQ x⟩
    ·simp only [Classical.not_forall] at hc
     obtain ⟨y,hy,hp,hne⟩:=hc
     have h1:=oM (hdone y hy) (hdone x hx) hp
     obtain ⟨z,hz,hzp⟩:=ih y (by have:dH y≠dH x:=fun e=>hne (h1.2 e)
                                 omega) hy
     exact ⟨z,hz,su hzp hp⟩
  rw [keepW]
  by_cases hany:out.any (dY · w)=true
  ·rw [adA hany]
   refine Ei l (done++[w]) out KF hs (fun x=>?_) hn
   rw [aqk] at hany
   obtain ⟨z,hz,hzp⟩:=hany
   have hzd:=(h z).1 hz
   rw [h]
   constructor
   ·rintro ⟨h1,h2⟩
    refine ⟨by simp [h1],fun y hy hp=>?_⟩
    simp only [agh,adJ] at hy
    rcases hy with hy | rfl
    ·exact h2 y hy hp
    ·exact hback x h1 hp
   ·rintro ⟨h1,h2⟩
    simp only [agh,adJ] at h1
    rcases h1 with h1 | rfl
    ·exact ⟨h1,fun y hy=>h2 y (by simp [hy])⟩
    ·have:=h2 z (by simp [hzd.1]) hzp
     subst this
     exact hzd
  ·rw [adt hany]
   have hany:out.any (dY · w)=false:=by simpa using hany
   rw [apY] at hany
   have hnew:w∉done:=by
    intro hwd
    obtain ⟨y,hy,hp⟩:=hbelow (dH w).toNat w (by unfold dH; omega) hwd
    exact hany y hy hp
   refine Ei l (done++[w]) (out++[w]) KF hs (fun x=>?_) ?_
   ·simp only [agh,adJ]
    rw [h]
    constructor
    ·rintro (⟨h1,h2⟩ | rfl)
     ·refine ⟨.inl h1,fun y hy hp=>?_⟩
      rcases hy with hy | rfl
      ·exact h2 y hy hp
      ·exact hback x h1 hp
     ·refine ⟨.inr rfl,fun y hy hp=>?_⟩
      rcases hy with hy | rfl
      ·obtain ⟨z,hz,hzp⟩:=hbelow (dH y).toNat y (by unfold dH; omega) hy
       exact (hany z hz (su hzp hp)).elim
      ·rfl
    ·rintro ⟨h1,h2⟩
     rcases h1 with h1 | rfl
     ·exact .inl ⟨h1,fun y hy=>h2 y (.inl hy)⟩
     ·exact .inr rfl
   ·rw [ap9]
    refine ⟨hn,by simp,fun a ha b hb=>?_⟩
    simp only [adJ] at hb
    subst hb
    rintro rfl
    exact hnew ((h a).1 ha).1
end Go.Proofs.Z
end
