/- A part of the proof: Inl, Pw. -/
import Derived.Test.YtjbhhddfaohdnaaGreatDoorPGd
set_option linter.all false
set_option linter.deprecated false
section
namespace Go.Abs
def SV.ren (f:Nat→Nat):SV→SV
 | .vptr t o=>.vptr (f t) o
 | .own i=>.own (f i)
 | .eptr i k o=>.eptr (f i) k o
 | .clo g ts=>.clo g (ts.map f)
 | .gd c v=>.gd c (v.ren f)
 | .ifc t v=>.ifc t (v.ren f)
 | .box _=>.dead
 | v=>v
def SV.good (f inv:Nat→Nat):SV→Bool
 | .vptr t _=>inv (f t) == t
 | .own i=>inv (f i) == i
 | .eptr i _ _=>inv (f i) == i
 | .clo _ ts=>ts.all fun t=>inv (f t) == t
 | .gd _ v=>v.good f inv
 | .ifc _ v=>v.good f inv
 | _=>true
def renL (f:Nat→Nat):List (Nat × SV)→List (Nat × SV)
 | []=>[]
 | (t,v)::l=>(t,v.ren f)::renL f l
def renV (f:Nat→Nat):List (Nat × List SV)→List (Nat × List SV)
 | []=>[]
 | (t,c)::l=>(f t,c.map (SV.ren f))::renV f l
def renR (f:Nat→Nat):List (Nat × Row)→List (Nat × Row)
 | []=>[]
 | (t,r)::l=>(f t,r)::renR f l
def goodL (f inv:Nat→Nat):List (Nat × SV)→Bool
 | []=>true
 | (_,v)::l=>v.good f inv&&goodL f inv l
def goodC (f inv:Nat→Nat):List SV→Bool
 | []=>true
 | v::l=>v.good f inv&&goodC f inv l
def goodV (f inv:Nat→Nat):List (Nat × List SV)→Bool
 | []=>true
 | (t,c)::l=>inv (f t) == t&&goodC f inv c&&goodV f inv l
def goodR (f inv:Nat→Nat):List (Nat × Row)→Bool
 | []=>true
 | (t,_)::l=>inv (f t) == t&&goodR f inv l
theorem lk_renL (f:Nat→Nat) (t:Nat):∀ l,lk t (renL f l)=(lk t l).map (SV.ren f)
 | []=>rfl
 | (j,v)::l=>by simp only [renL,lk]; split <;> simp [lk_renL f t l]
theorem lk_renV (f inv:Nat→Nat) (j:Nat) (y:List SV):∀ l,goodV f inv l=true→lk j (renV f l)=some y→∃ x,lk (inv j) l=some x∧y=x.map (SV.ren f)∧f (inv j)=j∧goodC f inv x=true
 | [],_,h=>by simp [renV,lk] at h
 | (t,c)::l,hg,h=>by
  simp only [goodV,Bool.and_eq_true,beq_iff_eq] at hg
  simp only [renV,lk] at h
  split at h
  ·rename_i e; cases h; subst e; rw [hg.1.1]; exact ⟨c,by simp [lk],rfl,rfl,hg.1.2⟩
  ·rename_i hne
   obtain ⟨x,h1,h2,h3,h4⟩:=lk_renV f inv j y l hg.2 h
   refine ⟨x,?_,h2,h3,h4⟩
   rw [lk,if_neg (fun e=>hne (by rw [e]; exact h3))]; exact h1
theorem lk_renR (f inv:Nat→Nat) (j:Nat) (y:Row):∀ l,goodR f inv l=true→lk j (renR f l)=some y→lk (inv j) l=some y∧f (inv j)=j
 | [],_,h=>by simp [renR,lk] at h
 | (t,c)::l,hg,h=>by
  simp only [goodR,Bool.and_eq_true,beq_iff_eq] at hg
  simp only [renR,lk] at h
  split at h
  ·rename_i e; cases h; subst e; rw [hg.1]; exact ⟨by simp [lk],rfl⟩
  ·rename_i hne
   obtain ⟨h1,h3⟩:=lk_renR f inv j y l hg.2 h
   exact ⟨by rw [lk,if_neg (fun e=>hne (by rw [e]; exact h3))]; exact h1,h3⟩
theorem goodL_mem {f inv:Nat→Nat}:∀ {l:List (Nat × SV)},goodL f inv l=true→∀ t x,lk t l=some x→x.good f inv=true
 | [],_,_,_,h=>by simp [lk] at h
 | (j,v)::l,hg,t,x,h=>by
  simp only [goodL,Bool.and_eq_true] at hg
  simp only [lk] at h
  split at h
  ·cases h; exact hg.1
  ·exact goodL_mem hg.2 t x h
theorem goodC_get {f inv:Nat→Nat}:∀ {l:List SV},goodC f inv l=true→∀ j,(l.getD j .dead).good f inv=true
 | [],_,j=>by simp [SV.good]
 | v::l,hg,0=>by simp only [goodC,Bool.and_eq_true] at hg; simpa using hg.1
 | v::l,hg,j+1=>by simp only [goodC,Bool.and_eq_true] at hg; simpa using goodC_get hg.2 j
theorem resD_length {P:Program} {s:St}:∀ {rv:List ResultVar} {p:Prop × List PD},resD P s rv=some p→p.2.length=rv.length
 | [],p,h=>by simp only [resD,Option.some.injEq] at h; subst h; rfl
 | .tmp t::l,p,h=>by
  simp only [resD] at h
  split at h
  ·rename_i h2; simp only [Option.some.injEq] at h; subst h; have:=resD_length h2; simpa using this
  ·cases h
 | .cell t ty::l,p,h=>by
  simp only [resD] at h
  split at h
  ·rename_i h2; simp only [Option.some.injEq] at h; subst h; have:=resD_length h2; simpa using this
  ·cases h
section
variable {C:Cx} {s:St} {a:Act} {w w':World} {E:Env} {P:Program} {k:List KI} {all:Array Oper} {l:List Oper} {o:Oper}
theorem Rel.ren {f inv:Nat→Nat} {row row':Nat→Option Row} (hrow:∀ j r,row' j=some r→row (inv j)=some r) {v:Value} {x:SV} (hx:x.good f inv=true) (h:Rel P w E row v x):
  Rel P w { E with vb:=fun j=>E.vb (inv j),rb:=fun j=>E.rb (inv j) } row' v (x.ren f):=by
 induction x generalizing v with
 | vptr t off=>simp only [SV.good,beq_iff_eq] at hx; simpa only [SV.ren,Rel,hx] using h
 | own i=>
  simp only [SV.good,beq_iff_eq] at hx
  intro r hr
  have:=h r (by rw [← hx]; exact hrow _ _ hr)
  simpa only [hx] using this
 | eptr i k off=>
  simp only [SV.good,beq_iff_eq] at hx
  intro r hr
  have:=h r (by rw [← hx]; exact hrow _ _ hr)
  simpa only [hx] using this
 | clo g ts=>
  simp only [SV.good,List.all_eq_true,beq_iff_eq] at hx
  simp only [SV.ren,Rel,List.map_map] at h ⊢
  rw [h]
  congr 2
  exact List.map_congr_left fun t ht=>by simp [hx t ht]
 | gd c x ih=>exact fun hc=>ih hx (h hc)
 | ifc t x ih=>obtain ⟨u,e,h⟩:=h; exact ⟨u,e,ih hx h⟩
 | box _=>trivial
 | dead=>trivial
 | pd d=>exact h
 | ref d off=>exact h
 | tpl ds=>exact h
 | fn F=>exact h
theorem ren_box {f:Nat→Nat} (x:SV) (cs:List Value):x.ren f≠.box cs:=by
 cases x <;> simp [SV.ren]
def pickL (slots:List (Nat × SV)):List Nat→List (Nat × SV)
 | []=>[]
 | t::l=>if t<10000 then (t,(lk t slots).getD .dead)::pickL slots l else pickL slots l
def shiftL:List (Nat × SV)→List (Nat × SV)
 | []=>[]
 | (t,v)::l=>(t+10000,v)::shiftL l
def lowL:List (Nat × SV)→List (Nat × SV)
 | []=>[]
 | (t,v)::l=>if t<10000 then (t,v)::lowL l else lowL l
def highL:List (Nat × SV)→List (Nat × SV)
 | []=>[]
 | (t,v)::l=>if t<10000 then highL l else (t - 10000,v)::highL l
def upN (t:Nat):Nat:=t+10000
def St.enter (s:St) (keep:List Nat) (n:Nat) (args:List SV):St:=
 ⟨n,slotsOf 0 (args.map (SV.ren upN)),renV upN s.vars,renR upN s.rows,s.maps,renL upN (pickL s.slots keep++shiftL s.gs)⟩
def dnN (b t:Nat):Nat:=if 10000≤t then t - 10000 else t+b
def updN (b j:Nat):Nat:=if b≤j∧j<b+10000 then j - b else j+10000
def dropV (keep:List Nat):List (Nat × List SV)→List (Nat × List SV)
 | []=>[]
 | (t,c)::l=>if 10000≤t∨keep.contains t then (t,c)::dropV keep l else dropV keep l
def dropR (keep:List Nat):List (Nat × Row)→List (Nat × Row)
 | []=>[]
 | (t,c)::l=>if 10000≤t∨keep.contains t then (t,c)::dropR keep l else dropR keep l
def St.leave (s:St) (b n:Nat) (kv kr:List Nat):St:=
 ⟨n,renL (dnN b) (lowL s.gs),renV (dnN b) (dropV kv s.vars),renR (dnN b) (dropR kr s.rows),s.maps,renL (dnN b) (highL s.gs)⟩
def St.leaveOk (s:St) (b:Nat) (kv kr:List Nat):Bool:=
 goodL (dnN b) (updN b) s.gs&&goodV (dnN b) (updN b) (dropV kv s.vars)&&goodR (dnN b) (updN b) (dropR kr s.rows)
def Cont (C:Cx) (all:Array Oper) (l:List Oper) (k:List KI) (dst:Option Nat) (a:Act):Ending→World→Prop
 | .returned v,w=>wpList C.P all (fin C k) l (a.put dst v) w
 | .panicked ch,w=>C.post (.panic ch) a w
 | _,_=>False
def Cx.sub (C:Cx) (fn:Func) (all:Array Oper) (l:List Oper) (k:List KI) (dst:Option Nat) (a:Act):Cx:=
 { P:=C.P,w0:=C.w0,G0:=C.G0,post:=bodyPost C.P fn (Cont C all l k dst a),mu:=C.mu,dr:=C.dr,ghost:=fun t=>if t<10000 then a.tmps.getD t undef else C.ghost (t - 10000) }
theorem csP (C:Cx) (fn:Func) (all:Array Oper) (l:List Oper) (k:List KI) (dst:Option Nat) (a:Act):(C.sub fn all l k dst a).P=C.P:=rfl
theorem csV (C:Cx) (fn:Func) (all:Array Oper) (l:List Oper) (k:List KI) (dst:Option Nat) (a:Act) (t:Nat):(C.sub fn all l k dst a).vb0 t=none:=rfl
theorem csR (C:Cx) (fn:Func) (all:Array Oper) (l:List Oper) (k:List KI) (dst:Option Nat) (a:Act) (t:Nat):(C.sub fn all l k dst a).rb0 t=none:=rfl
theorem csW (C:Cx) (fn:Func) (all:Array Oper) (l:List Oper) (k:List KI) (dst:Option Nat) (a:Act):(C.sub fn all l k dst a).w0=C.w0:=rfl
theorem csM (C:Cx) (fn:Func) (all:Array Oper) (l:List Oper) (k:List KI) (dst:Option Nat) (a:Act):(C.sub fn all l k dst a).mu=C.mu:=rfl
theorem lk_pickL (slots:List (Nat × SV)) (t:Nat):∀ keep x,lk t (pickL slots keep)=some x→t<10000∧x=(lk t slots).getD .dead
 | [],x,h=>by simp [pickL,lk] at h
 | j::l,x,h=>by
  simp only [pickL] at h
  split at h
  ·simp only [lk] at h
   split at h
   ·rename_i e; cases h; subst e; exact ⟨by assumption,rfl⟩
   ·exact lk_pickL slots t l x h
  ·exact lk_pickL slots t l x h
theorem lk_shiftL (t:Nat):∀ l x,lk t (shiftL l)=some x→10000≤t∧lk (t - 10000) l=some x
 | [],x,h=>by simp [shiftL,lk] at h
 | (j,y)::l,x,h=>by
  simp only [shiftL,lk] at h
  split at h
  ·rename_i e; cases h; subst e; exact ⟨by omega,by simp [lk]⟩
  ·rename_i hne
   obtain ⟨h1,h2⟩:=lk_shiftL t l x h
   exact ⟨h1,by rw [lk,if_neg (by omega)]; exact h2⟩
theorem lk_lowL (t:Nat):∀ l x,lk t (lowL l)=some x→t<10000∧lk t l=some x
 | [],x,h=>by simp [lowL,lk] at h
 | (j,y)::l,x,h=>by
  simp only [lowL] at h
  split at h
  ·simp only [lk] at h
   split at h
   ·rename_i e; cases h; subst e; exact ⟨by assumption,by simp [lk]⟩
   ·obtain ⟨h1,h2⟩:=lk_lowL t l x h; exact ⟨h1,by rw [lk,if_neg (by assumption)]; exact h2⟩
  ·obtain ⟨h1,h2⟩:=lk_lowL t l x h
   exact ⟨h1,by rw [lk,if_neg (by omega)]; exact h2⟩
theorem lk_highL (t:Nat):∀ l x,lk t (highL l)=some x→lk (t+10000) l=some x
 | [],x,h=>by simp [highL,lk] at h
 | (j,y)::l,x,h=>by
  simp only [highL] at h
  split at h
  ·have:=lk_highL t l x h; rw [lk,if_neg (by omega)]; exact this
  ·simp only [lk] at h
   split at h
   ·rename_i e; cases h; rw [lk,if_pos (by omega)]
   ·rename_i hne
    have:=lk_highL t l x h; rw [lk,if_neg (by omega)]; exact this
theorem lk_dropV (keep:List Nat) (t:Nat):∀ l x,lk t (dropV keep l)=some x→lk t l=some x
 | [],x,h=>by simp [dropV,lk] at h
 | (j,y)::l,x,h=>by
  simp only [dropV] at h
  split at h
  ·simp only [lk] at h ⊢
   split at h
   ·rw [if_pos (by assumption)]; exact h
   ·rw [if_neg (by assumption)]; exact lk_dropV keep t l x h
  ·rename_i hn
   have:=lk_dropV keep t l x h
   rw [lk]
   split
   ·rename_i e; subst e
    exact (hn (lk_dropV_mem keep j l x h)).elim
   ·exact this
where
 lk_dropV_mem (keep:List Nat) (t:Nat):∀ l x,lk t (dropV keep l)=some x→10000≤t∨keep.contains t=true
 | [],x,h=>by simp [dropV,lk] at h
 | (j,y)::l,x,h=>by
  simp only [dropV] at h
  split at h
  ·rename_i hc
   simp only [lk] at h
   split at h
   ·rename_i e; subst e; exact hc
   ·exact lk_dropV_mem keep t l x h
  ·exact lk_dropV_mem keep t l x h
theorem lk_dropR (keep:List Nat) (t:Nat):∀ l x,lk t (dropR keep l)=some x→lk t l=some x
 | [],x,h=>by simp [dropR,lk] at h
 | (j,y)::l,x,h=>by
  simp only [dropR] at h
  split at h
  ·simp only [lk] at h ⊢
   split at h
   ·rw [if_pos (by assumption)]; exact h
   ·rw [if_neg (by assumption)]; exact lk_dropR keep t l x h
  ·rename_i hn
   have:=lk_dropR keep t l x h
   rw [lk]
   split
   ·rename_i e; subst e
    exact (hn (lk_dropR_mem keep j l x h)).elim
   ·exact this
where
 lk_dropR_mem (keep:List Nat) (t:Nat):∀ l x,lk t (dropR keep l)=some x→10000≤t∨keep.contains t=true
 | [],x,h=>by simp [dropR,lk] at h
 | (j,y)::l,x,h=>by
  simp only [dropR] at h
  split at h
  ·rename_i hc
   simp only [lk] at h
   split at h
   ·rename_i e; subst e; exact hc
   ·exact lk_dropR_mem keep t l x h
  ·exact lk_dropR_mem keep t l x h
theorem upN_good (x:SV):x.good upN (· - 10000)=true:=by
 induction x with
 | gd c v ih=>exact ih
 | ifc c v ih=>exact ih
 | _=>simp [SV.good,upN]
theorem goodC_up:∀ l:List SV,goodC upN (· - 10000) l=true
 | []=>rfl
 | v::l=>by simp only [goodC,upN_good,goodC_up l,Bool.and_self]
theorem goodV_up:∀ l:List (Nat × List SV),goodV upN (· - 10000) l=true
 | []=>rfl
 | (t,c)::l=>by simp [goodV,goodC_up,goodV_up l,upN]
theorem goodR_up:∀ l:List (Nat × Row),goodR upN (· - 10000) l=true
 | []=>rfl
 | (t,c)::l=>by simp [goodR,goodR_up l,upN]
theorem getD_map_ren (f:Nat→Nat) (cs:List SV) (j:Nat):(cs.map (SV.ren f)).getD j .dead=(cs.getD j .dead).ren f:=getD_map_kill (SV.ren f) rfl cs j
theorem Gam.enter (g:Gam C s a w E) (hr0:∀ i,C.rb0 i=none) (fn:Func) (keep:List Nat) {args:List SV} {vals:Array Value} (hs:vals.size=args.length) (hv:∀ i,i<args.length→Rel C.P w E s.row (vals.getD i undef) (args.getD i .dead)) (hn:args.length≤fn.ntmps):
  Gam (C.sub fn all l k o.dst a) (s.enter keep fn.ntmps args) { tmps:=vals++Array.replicate (fn.ntmps - vals.size) undef,defers:=[] } w { E with vb:=fun j=>E.vb (j - 10000),rb:=fun j=>E.rb (j - 10000) }:=by
 have hrow:∀ j r,(s.enter keep fn.ntmps args).row j=some r→s.row (j - 10000)=some r∧upN (j - 10000)=j:=fun j r h=>lk_renR upN (· - 10000) j r s.rows (goodR_up _) h
 have hvar:∀ j c,(s.enter keep fn.ntmps args).var j=some c→∃ x,s.var (j - 10000)=some x∧c=x.map (SV.ren upN)∧upN (j - 10000)=j:=fun j c h=>by
  obtain ⟨x,h1,h2,h3,_⟩:=lk_renV upN (· - 10000) j c s.vars (goodV_up _) h; exact ⟨x,h1,h2,h3⟩
 have hrel:∀ v x,Rel C.P w E s.row v x→Rel C.P w { E with vb:=fun j=>E.vb (j - 10000),rb:=fun j=>E.rb (j - 10000) } (s.enter keep fn.ntmps args).row v (x.ren upN):=
  fun v x h=>Rel.ren (inv:=(· - 10000)) (fun j r h=>(hrow j r h).1) (upN_good x) h
 have hget:∀ t,(s.enter keep fn.ntmps args).get t=(args.getD t .dead).ren upN:=by
  intro t
  simp only [St.get,St.enter,lk_slotsOf,Nat.zero_le,if_true,Nat.sub_zero,List.getElem?_map,List.getD_eq_getElem?_getD]
  cases args[t]? <;> rfl
 have nb:∀ t cs,(s.enter keep fn.ntmps args).get t≠.box cs:=fun t cs=>by rw [hget]; exact ren_box _ cs
 exact {
  kept:=g.kept
  defers:=rfl
  size:=by simp only [Array.size_append,Array.size_replicate]; show _=fn.ntmps; omega
  g0:=g.g0
  g1:=g.g1
  tab:=g.tab
  gw:=g.gw
  slots:=fun t=>by
   rw [hget]
   refine hrel _ _ ?_
   by_cases ht:t<args.length
   ·have h1:t<vals.size:=by omega
    have:(vals++Array.replicate (fn.ntmps - vals.size) undef).getD t undef=vals.getD t undef:=by
     simp only [Array.getD_eq_getD_getElem?,Array.getElem?_append_left h1]
    simp only [this]; exact hv t ht
   ·have:args.getD t .dead = .dead:=by simp [List.getD_eq_getElem?_getD,List.getElem?_eq_none (Nat.le_of_not_lt ht)]
    rw [this]; trivial
  ghosts:=fun t=>by
   simp only [St.gget,St.enter,lk_renL]
   cases h:lk t (pickL s.slots keep++shiftL s.gs) with
   | none=>trivial
   | some x=>
    rw [lk_append] at h
    simp only [Option.map_some,Option.getD_some]
    refine hrel _ _ ?_
    simp only [Cx.sub]
    cases h1:lk t (pickL s.slots keep) with
    | some y=>
     simp only [h1,Option.some_or,Option.some.injEq] at h; subst h
     obtain ⟨h2,h3⟩:=lk_pickL _ _ _ _ h1
     rw [if_pos h2,h3]; exact g.slots t
    | none=>
     simp only [h1,Option.none_or] at h
     obtain ⟨h2,h3⟩:=lk_shiftL _ _ _ h
     rw [if_neg (by omega)]
     have:=g.ghosts (t - 10000)
     simpa only [St.gget,h3,Option.getD_some] using this
  vars:=fun j c h=>by
   obtain ⟨x,h1,rfl,_⟩:=hvar j c h
   obtain ⟨cur,e,m,hs',hr'⟩:=g.vars _ x h1
   refine ⟨cur,e,m,by simpa using hs',fun i hi=>?_⟩
   rw [getD_map_ren]
   have:=hr' i (by simpa using hi)
   exact ⟨this.1,hrel _ _ this.2⟩
  rows:=fun j r h=>by
   rcases g.rows _ r (hrow j r h).1 with h1 | ⟨b,cap,cur,i1,m,i2⟩
   ·exact .inl h1
   ·exact .inr ⟨b,cap,cur,i1,m,i2⟩
  maps:=g.maps
  boxes:=fun t cs h=>(nb t cs h).elim
  vv:=fun t t' c c' h h' he=>by
   obtain ⟨x,h1,_,e1⟩:=hvar t c h; obtain ⟨x',h1',_,e1'⟩:=hvar t' c' h'
   have:=g.vv _ _ _ _ h1 h1' he
   rw [← e1,← e1',this]
  rr:=fun i i' r r' p h h' hp p' hp' he=>by
   obtain ⟨h1,e1⟩:=hrow i r h; obtain ⟨h1',e1'⟩:=hrow i' r' h'
   have:=g.rr _ _ _ _ p h1 h1' hp p' hp' he
   rw [← e1,← e1',this]
  vr:=fun t c i r p h h' hp=>by
   obtain ⟨x,h1,_,_⟩:=hvar t c h
   have h2:=g.vr _ _ _ r p h1 (hrow i r h').1 hp
   exact h2
  bb:=fun t t' c c' h=>(nb t c h).elim
  bv:=fun t t' c c' h=>(nb t c h).elim
  br:=fun t c i r p h=>(nb t c h).elim
  vfix:=fun t b h=>by cases h
  rfix:=fun i p h=>by cases h
  rnew:=fun i r p h hp _=>by
   have h2:=g.rnew _ r p (hrow i r h).1 hp (hr0 _)
   exact h2 }
theorem Gam.leave {fn:Func} {a':Act} (g:Gam (C.sub fn all l k o.dst a) s a' w E) (hv0:∀ i,C.vb0 i=none) (hr0:∀ i,C.rb0 i=none) (b n:Nat) (kv kr:List Nat) (ok:s.leaveOk b kv kr=true) (ha:a.defers=C.df) (hn:a.tmps.size=n):
  Gam C (s.leave b n kv kr) a w { E with vb:=fun j=>E.vb (updN b j),rb:=fun j=>E.rb (updN b j) } ∧
   ∀ v x,x.good (dnN b) (updN b)=true→Rel C.P w E s.row v x→Rel C.P w { E with vb:=fun j=>E.vb (updN b j),rb:=fun j=>E.rb (updN b j) } (s.leave b n kv kr).row v (x.ren (dnN b)):=by
 simp only [St.leaveOk,Bool.and_eq_true] at ok
 obtain ⟨⟨okg,okv⟩,okr⟩:=ok
 have hrow:∀ j r,(s.leave b n kv kr).row j=some r→s.row (updN b j)=some r∧dnN b (updN b j)=j:=fun j r h=>by
  obtain ⟨h1,h2⟩:=lk_renR (dnN b) (updN b) j r _ okr h
  exact ⟨lk_dropR _ _ _ _ h1,h2⟩
 have hvar:∀ j c,(s.leave b n kv kr).var j=some c→∃ x,s.var (updN b j)=some x∧c=x.map (SV.ren (dnN b))∧dnN b (updN b j)=j∧goodC (dnN b) (updN b) x=true:=fun j c h=>by
  obtain ⟨x,h1,h2,h3,h4⟩:=lk_renV (dnN b) (updN b) j c _ okv h; exact ⟨x,lk_dropV _ _ _ _ h1,h2,h3,h4⟩
 have hrel:∀ v x,x.good (dnN b) (updN b)=true→Rel C.P w E s.row v x→Rel C.P w { E with vb:=fun j=>E.vb (updN b j),rb:=fun j=>E.rb (updN b j) } (s.leave b n kv kr).row v (x.ren (dnN b)):=
  fun v x hx h=>Rel.ren (fun j r h=>(hrow j r h).1) hx h
 refine ⟨?_,hrel⟩
 have nb:∀ t cs,(s.leave b n kv kr).get t≠.box cs:=fun t cs=>by
  simp only [St.get,St.leave,lk_renL]
  cases lk t (lowL s.gs) with
  | none=>simp
  | some x=>exact ren_box x cs
 exact {
  kept:=g.kept
  defers:=ha
  size:=hn
  g0:=g.g0
  g1:=g.g1
  tab:=g.tab
  gw:=g.gw
  slots:=fun t=>by
   simp only [St.get,St.leave,lk_renL]
   cases h:lk t (lowL s.gs) with
   | none=>trivial
   | some x=>
    obtain ⟨h1,h2⟩:=lk_lowL _ _ _ h
    simp only [Option.map_some,Option.getD_some]
    refine hrel _ _ (goodL_mem okg t x h2) ?_
    have:=g.ghosts t
    simpa only [St.gget,h2,Option.getD_some,Cx.sub,if_pos h1] using this
  ghosts:=fun t=>by
   simp only [St.gget,St.leave,lk_renL]
   cases h:lk t (highL s.gs) with
   | none=>trivial
   | some x=>
    have h2:=lk_highL _ _ _ h
    simp only [Option.map_some,Option.getD_some]
    refine hrel _ _ (goodL_mem okg _ x h2) ?_
    have:=g.ghosts (t+10000)
    simpa only [St.gget,h2,Option.getD_some,Cx.sub,if_neg (show ¬ t+10000<10000 by omega),Nat.add_sub_cancel] using this
  vars:=fun j c h=>by
   obtain ⟨x,h1,rfl,_,h4⟩:=hvar j c h
   obtain ⟨cur,e,m,hs',hr'⟩:=g.vars _ x h1
   refine ⟨cur,e,m,by simpa using hs',fun i hi=>?_⟩
   rw [getD_map_ren]
   have:=hr' i (by simpa using hi)
   exact ⟨this.1,hrel _ _ (goodC_get h4 i) this.2⟩
  rows:=fun j r h=>by
   rcases g.rows _ r (hrow j r h).1 with h1 | ⟨b,cap,cur,i1,m,i2⟩
   ·exact .inl h1
   ·exact .inr ⟨b,cap,cur,i1,m,i2⟩
  maps:=g.maps
  boxes:=fun t cs h=>(nb t cs h).elim
  vv:=fun t t' c c' h h' he=>by
   obtain ⟨x,h1,_,e1,_⟩:=hvar t c h; obtain ⟨x',h1',_,e1',_⟩:=hvar t' c' h'
   have:=g.vv _ _ _ _ h1 h1' he
   rw [← e1,← e1',this]
  rr:=fun i i' r r' p h h' hp p' hp' he=>by
   obtain ⟨h1,e1⟩:=hrow i r h; obtain ⟨h1',e1'⟩:=hrow i' r' h'
   have:=g.rr _ _ _ _ p h1 h1' hp p' hp' he
   rw [← e1,← e1',this]
  vr:=fun t c i r p h h' hp=>by
   obtain ⟨x,h1,_,_,_⟩:=hvar t c h
   have h2:=g.vr _ _ _ r p h1 (hrow i r h').1 hp
   exact h2
  bb:=fun t t' c c' h=>(nb t c h).elim
  bv:=fun t t' c c' h=>(nb t c h).elim
  br:=fun t c i r p h=>(nb t c h).elim
  vfix:=fun t b h=>by rw [hv0] at h; cases h
  rfix:=fun i p h=>by rw [hr0] at h; cases h
  rnew:=fun i r p h hp _=>by
   have h2:=g.rnew _ r p (hrow i r h).1 hp rfl
   exact h2 }
def resS (P:Program) (s:St):List ResultVar→Option (Prop × SV)
 | []=>some (True,.dead)
 | [.tmp t]=>some (True,(s.get t).unbox)
 | [.cell t ty]=>(ayLoad P s.var s.row ty (s.get t)).map fun p=>(p.1,p.2.unbox)
 | rv=>(resD P s rv).map fun p=>(p.1,.tpl p.2)
theorem leave_ok {fn:Func} {a':Act} (g:Gam (C.sub fn all l k o.dst a) s a' w E) (hv0:∀ i,C.vb0 i=none) (hr0:∀ i,C.rb0 i=none) (b n:Nat) (kv kr:List Nat) {vc:Prop} {x:SV} (h:resS C.P s fn.results.toList=some (vc,x)) (hvc:vc) (ok:s.leaveOk b kv kr=true) (hx:x.good (dnN b) (updN b)=true)
  (ha:a.defers=C.df) (hn:a.tmps.size=n) (hd:dstOk (s.leave b n kv kr) o) (next:R C (.ops all l::k) ((s.leave b n kv kr).put o.dst (x.ren (dnN b)))):
  a'.defers=[]∧∃ v,(results fn a'.tmps).run C.P w = .ok v w∧Cont C all l k o.dst a (.returned v) w:=by
 obtain ⟨g1,hrel⟩:=g.leave hv0 hr0 b n kv kr ok ha hn
 refine ⟨g.defers,?_⟩
 have fin':∀ v,Rel C.P w E s.row v x→Cont C all l k o.dst a (.returned v) w:=fun v hv=>next _ _ _ (g1.putO hd (hrel _ _ hx hv) (ren_box x))
 match hrv:fn.results.toList,h with
 | [],h=>
  simp only [resS,Option.some.injEq,Prod.mk.injEq] at h; obtain ⟨rfl,rfl⟩:=h
  exact ⟨_,results_run (vs:=[]) (by rw [hrv]; simp),fin' _ trivial⟩
 | [.tmp t],h=>
  simp only [resS,Option.some.injEq,Prod.mk.injEq] at h; obtain ⟨rfl,rfl⟩:=h
  exact ⟨_,results_run (vs:=[a'.tmps.getD t undef]) (by rw [hrv]; simp [resM]),fin' _ (g.slots t).unbox⟩
 | [.cell t ty],h=>
  simp only [resS] at h
  cases hl:ayLoad C.P s.var s.row ty (s.get t) with
  | none=>simp [hl] at h
  | some p=>
   simp only [hl,Option.map_some,Option.some.injEq,Prod.mk.injEq] at h; obtain ⟨rfl,rfl⟩:=h
   obtain ⟨u,hu,hr⟩:=ayLoad_ok (C:=C.sub fn all l k o.dst a) g (vc:=p.1) (v:=p.2) hl hvc (g.slots t)
   obtain ⟨ad,e1,e2⟩:=loadAt_ptr hu
   have e3:Sem.run C.P (loadVar ty ad) w = .ok u w:=e2
   exact ⟨_,results_run (vs:=[u]) (by rw [hrv]; simp [resM,e1,asAddr,e3]),fin' _ hr.unbox⟩
 | r1::r2::rest,h=>
  simp only [resS] at h
  cases hl:resD C.P s (r1::r2::rest) with
  | none=>simp [hl] at h
  | some p=>
   simp only [hl,Option.map_some,Option.some.injEq,Prod.mk.injEq] at h; obtain ⟨rfl,rfl⟩:=h
   obtain ⟨vs,h1,h2,h3⟩:=results_ok g (rv:=r1::r2::rest) (vc:=p.1) (rs:=p.2) hl hvc
   refine ⟨_,results_run (by rw [hrv]; exact h1),fin' _ ?_⟩
   have hl2:¬ vs.toArray.size=1:=by
    have:p.2.length=(r1::r2::rest).length:=resD_length hl
    simp at this; simp; omega
   rw [dif_neg hl2]
   exact ⟨vs.toArray,rfl,by simp [h2],fun j hj=>by simpa [Array.getD_eq_getD_getElem?,List.getD_eq_getElem?_getD] using h3 j hj⟩
theorem R.leave {fn:Func} {k':List KI} (hv0:∀ i,C.vb0 i=none) (hr0:∀ i,C.rb0 i=none) (b n:Nat) (kv kr:List Nat) {vc:Prop} {x:SV} (h:resS C.P s fn.results.toList=some (vc,x)) (hvc:vc) (ok:s.leaveOk b kv kr=true) (hx:x.good (dnN b) (updN b)=true)
  (ha:a.defers=C.df) (hn:a.tmps.size=n) (hd:dstOk (s.leave b n kv kr) o) (next:R C (.ops all l::k) ((s.leave b n kv kr).put o.dst (x.ren (dnN b)))):R (C.sub fn all l k o.dst a) (.code .ret::k') s:=
 R.ret fun _ _ _ g=>leave_ok g hv0 hr0 b n kv kr h hvc ok hx ha hn hd next
end
end Go.Abs
end
section
namespace Go.Proofs.YtjbhhddfaohdnaaGreatDoor
structure W where
 pos:List Int
 neg:List Int
deriving DecidableEq
def cmpI (a b:Int):Int:=if a<b then -1 else if b<a then 1 else 0
def orI (l:List Int):Int:=(l.find? (· != 0)).getD 0
def cmpL:List Int→List Int→Int
 | [],[]=>0
 | [],_::_=>-1
 | _::_,[]=>1
 | x::l,y::m=>if cmpI x y≠0 then cmpI x y else cmpL l m
def cmpW (a b:W):Int:=orI [cmpL a.pos b.pos,cmpL a.neg b.neg]
def sizeW (w:W):Int:=((w.pos.length+w.neg.length:Nat):Int)
def ordW (a b:W):Int:=orI [sizeW a - sizeW b,cmpW a b]
def holdsW (set:List Int) (w:W):Bool:=!w.neg.any (set.contains ·)&&w.pos.all (set.contains ·)
theorem sorted_unique {α:Type} {lt:α→α→Prop} (asymm:∀ a b,lt a b→lt b a→False):∀ {l m:List α},l.Pairwise lt→m.Pairwise lt→(∀ x,x∈l↔x∈m)→l=m
 | [],[],_,_,_=>rfl
 | [],y::m,_,_,h=>by have:=(h y).2 (by simp); simp at this
 | x::l,[],_,_,h=>by have:=(h x).1 (by simp); simp at this
 | x::l,y::m,hl,hm,h=>by
  rw [List.pairwise_cons] at hl hm
  have e:x=y:=by
   have h1:=(h x).1 (by simp)
   have h2:=(h y).2 (by simp)
   rw [List.mem_cons] at h1 h2
   rcases h1 with h1 | h1
   ·exact h1
   ·rcases h2 with h2 | h2
    ·exact h2.symm
    ·exact (asymm _ _ (hl.1 y h2) (hm.1 x h1)).elim
  subst e
  congr 1
  refine sorted_unique asymm hl.2 hm.2 fun z=>⟨fun hz=>?_,fun hz=>?_⟩
  ·have:=(h z).1 (by simp [hz])
   rw [List.mem_cons] at this
   rcases this with rfl | h'
   ·exact (asymm _ _ (hl.1 z hz) (hl.1 z hz)).elim
   ·exact h'
  ·have:=(h z).2 (by simp [hz])
   rw [List.mem_cons] at this
   rcases this with rfl | h'
   ·exact (asymm _ _ (hm.1 z hz) (hm.1 z hz)).elim
   ·exact h'
def insBy {α:Type} (c:α→α→Int) (x:α):List α→List α
 | []=>[x]
 | y::l=>if c x y<0 then x::y::l else if c x y=0 then y::l else y::insBy c x l
def sortBy {α:Type} (c:α→α→Int) (l:List α):List α:=l.foldr (insBy c) []
structure Order {α:Type} (c:α→α→Int):Prop where
 eq:∀ a b,c a b=0↔a=b
 flip:∀ a b,c a b<0↔0<c b a
 trans:∀ a b d,c a b<0→c b d<0→c a d<0
theorem Order.asymm {α:Type} {c:α→α→Int} (h:Order c) (a b:α) (h1:c a b<0) (h2:c b a<0):False:=by
 have:=(h.flip a b).1 h1; omega
theorem mem_insBy {α:Type} {c:α→α→Int} (h:Order c) (x z:α):∀ l,z∈insBy c x l↔z=x∨z∈l
 | []=>by simp [insBy]
 | y::l=>by
  simp only [insBy]
  split
  ·simp
  ·split
   ·rename_i e; have:=(h.eq x y).1 e; subst this
    simp only [List.mem_cons]; constructor
    ·rintro (h | h) <;> simp [h]
    ·rintro (h | h | h) <;> simp [h]
   ·simp only [List.mem_cons,mem_insBy h x z l]; constructor
    ·rintro (h | h | h) <;> simp [h]
    ·rintro (h | h | h) <;> simp [h]
theorem insBy_sorted {α:Type} {c:α→α→Int} (h:Order c) (x:α):∀ {l},l.Pairwise (fun a b=>c a b<0)→(insBy c x l).Pairwise (fun a b=>c a b<0)
 | [],_=>by simp [insBy]
 | y::l,hl=>by
  have hl':=hl
  rw [List.pairwise_cons] at hl
  simp only [insBy]
  split
  ·rename_i hlt
   rw [List.pairwise_cons]
   refine ⟨fun z hz=>?_,hl'⟩
   rw [List.mem_cons] at hz
   rcases hz with rfl | hz
   ·exact hlt
   ·exact h.trans _ _ _ hlt (hl.1 z hz)
  ·split
   ·exact hl'
   ·rename_i h1 h2
    rw [List.pairwise_cons]
    refine ⟨fun z hz=>?_,insBy_sorted h x hl.2⟩
    rw [mem_insBy h] at hz
    rcases hz with rfl | hz
    ·exact (h.flip _ _).2 (by omega)
    ·exact hl.1 z hz
theorem mem_sortBy {α:Type} {c:α→α→Int} (h:Order c) (z:α):∀ l,z∈sortBy c l↔z∈l
 | []=>by simp [sortBy]
 | x::l=>by
  have ih:=mem_sortBy h z l
  simp only [sortBy,List.foldr_cons,mem_insBy h,List.mem_cons] at ih ⊢
  rw [ih]
theorem sortBy_sorted {α:Type} {c:α→α→Int} (h:Order c):∀ l,(sortBy c l).Pairwise (fun a b=>c a b<0)
 | []=>by simp [sortBy]
 | x::l=>insBy_sorted h x (sortBy_sorted h l)
theorem sortBy_unique {α:Type} {c:α→α→Int} (h:Order c) {l m:List α} (hm:m.Pairwise (fun a b=>c a b<0)) (hx:∀ x,x∈m↔x∈l):m=sortBy c l:=
 sorted_unique (fun a b h1 h2=>h.asymm a b h1 h2) hm (sortBy_sorted h l) fun x=>by rw [hx,mem_sortBy h]
theorem order_cmpI:Order cmpI where
 eq a b:=by unfold cmpI; split <;> (try split) <;> omega
 flip a b:=by unfold cmpI; split <;> (try split) <;> (try split) <;> (try split) <;> omega
 trans a b d:=by unfold cmpI; intro h1 h2; split at h1 <;> (try split at h1) <;> split at h2 <;> (try split at h2) <;> first | omega | (rw [if_pos (by omega)]; omega) | rw [if_pos (by omega)]
theorem order_cmpL:Order cmpL where
 eq:=by
  intro a
  induction a with
  | nil=>intro b; cases b <;> simp [cmpL]
  | cons x l ih=>
   intro b
   cases b with
   | nil=>simp [cmpL]
   | cons y m=>
    simp only [cmpL,List.cons.injEq]
    split
    ·rename_i h; constructor
     ·intro h'; exact (h h').elim
     ·rintro ⟨rfl,_⟩; exact (h ((order_cmpI.eq _ _).2 rfl)).elim
    ·rename_i h
     have h:cmpI x y=0:=by simpa using h
     rw [ih]; have:=(order_cmpI.eq x y).1 h; simp [this]
 flip:=by
  intro a
  induction a with
  | nil=>intro b; cases b <;> simp [cmpL]
  | cons x l ih=>
   intro b
   cases b with
   | nil=>simp [cmpL]
   | cons y m=>
    simp only [cmpL]
    by_cases h:cmpI x y=0
    ·have e:=(order_cmpI.eq x y).1 h; subst e
     have h0:cmpI x x=0:=h
     simp only [h0,ne_eq,not_true_eq_false,if_false]; exact ih m
    ·have h':cmpI y x≠0:=fun e=>h ((order_cmpI.eq x y).2 ((order_cmpI.eq y x).1 e).symm)
     rw [if_pos h,if_pos h']; exact order_cmpI.flip x y
 trans:=by
  intro a
  induction a with
  | nil=>
   intro b d h1 h2
   cases d with
   | nil=>cases b <;> simp [cmpL] at h1 h2
   | cons z n=>simp [cmpL]
  | cons x l ih=>
   intro b d h1 h2
   cases b with
   | nil=>simp [cmpL] at h1
   | cons y m=>
    cases d with
    | nil=>simp [cmpL] at h2
    | cons z n=>
     simp only [cmpL] at h1 h2 ⊢
     by_cases hxy:cmpI x y=0
     ·have e:=(order_cmpI.eq x y).1 hxy; subst e
      rw [if_neg (by simpa using hxy)] at h1
      by_cases hxz:cmpI x z=0
      ·rw [if_neg (by simpa using hxz)] at h2 ⊢; exact ih _ _ h1 h2
      ·rw [if_pos hxz] at h2 ⊢; exact h2
     ·rw [if_pos hxy] at h1
      by_cases hyz:cmpI y z=0
      ·have e:=(order_cmpI.eq y z).1 hyz; subst e
       rw [if_pos hxy]; exact h1
      ·rw [if_pos hyz] at h2
       have h3:=order_cmpI.trans _ _ _ h1 h2
       rw [if_pos (by omega)]; exact h3
theorem orI_two (a b:Int):orI [a,b]=if a=0 then b else a:=by
 unfold orI
 by_cases h:a=0
 ·by_cases h2:b=0
  ·simp [List.find?,h,h2]
  ·simp [List.find?,h,show (b != 0)=true by simpa using h2]
 ·simp [List.find?,h,show (a != 0)=true by simpa using h]
theorem order_or {α:Type} {c d:α→α→Int} (c0:∀ a,c a a=0) (cf:∀ a b,c a b<0↔0<c b a) (ct:∀ a b e,c a b<0→c b e<0→c a e<0) (ce:∀ a b e,c a b=0→(c a e=c b e∧c e a=c e b))
  (de:∀ a b,c a b=0→(d a b=0↔a=b)) (df:∀ a b,d a b<0↔0<d b a) (dt:∀ a b e,d a b<0→d b e<0→d a e<0):Order (fun a b=>if c a b=0 then d a b else c a b) where
 eq a b:=by
  constructor
  ·intro h
   by_cases h0:c a b=0
   ·rw [if_pos h0] at h; exact (de a b h0).1 h
   ·rw [if_neg h0] at h; exact (h0 h).elim
  ·rintro rfl; rw [if_pos (c0 a)]; exact (de a a (c0 a)).2 rfl
 flip a b:=by
  have h1:=cf a b; have h2:=cf b a
  by_cases h0:c a b=0
  ·have h0':c b a=0:=by omega
   rw [if_pos h0,if_pos h0']; exact df a b
  ·have h0':c b a≠0:=by omega
   rw [if_neg h0,if_neg h0']; exact h1
 trans a b e h1 h2:=by
  by_cases ab:c a b=0
  ·rw [if_pos ab] at h1
   have:=(ce a b e ab).1
   by_cases be:c b e=0
   ·rw [if_pos be] at h2; rw [if_pos (by omega)]; exact dt _ _ _ h1 h2
   ·rw [if_neg be] at h2; rw [if_neg (by omega)]; omega
  ·rw [if_neg ab] at h1
   by_cases be:c b e=0
   ·have:=(ce b e a be).2
    rw [if_neg (by omega)]; omega
   ·rw [if_neg be] at h2
    have:=ct _ _ _ h1 h2
    rw [if_neg (by omega)]; exact this
theorem cmpW_eq:cmpW=fun a b=>if cmpL a.pos b.pos=0 then cmpL a.neg b.neg else cmpL a.pos b.pos:=by funext a b; exact orI_two _ _
theorem order_cmpW:Order cmpW:=by
 rw [cmpW_eq]
 refine order_or (c:=fun a b:W=>cmpL a.pos b.pos) (d:=fun a b:W=>cmpL a.neg b.neg) (fun a=>(order_cmpL.eq _ _).2 rfl) (fun a b=>order_cmpL.flip _ _) (fun a b e=>order_cmpL.trans _ _ _) (fun a b e h=>?_) (fun a b h=>?_) (fun a b=>order_cmpL.flip _ _) (fun a b e=>order_cmpL.trans _ _ _)
 ·have:=(order_cmpL.eq _ _).1 h; simp [this]
 ·have h:=(order_cmpL.eq _ _).1 h
  rw [order_cmpL.eq]; cases a; cases b; simp at h ⊢; simp [h]
theorem ordW_eq:ordW=fun a b=>if sizeW a - sizeW b=0 then cmpW a b else sizeW a - sizeW b:=by funext a b; exact orI_two _ _
theorem order_ordW:Order ordW:=by
 rw [ordW_eq]
 refine order_or (c:=fun a b:W=>sizeW a - sizeW b) (d:=cmpW) (fun a=>by omega) (fun a b=>by omega) (fun a b e=>by omega) (fun a b e h=>by omega) (fun a b h=>order_cmpW.eq a b) order_cmpW.flip order_cmpW.trans
def setI (l:List Int):List Int:=sortBy cmpI l
theorem mem_setI (x:Int) (l:List Int):x∈setI l↔x∈l:=mem_sortBy order_cmpI x l
theorem cmpI_neg (a b:Int):cmpI a b<0↔a<b:=by unfold cmpI; split <;> (try split) <;> omega
theorem setI_sorted (l:List Int):(setI l).Pairwise (· < ·):=(sortBy_sorted order_cmpI l).imp fun h=>(cmpI_neg _ _).1 h
theorem setI_unique {l m:List Int} (hm:m.Pairwise (· < ·)) (hx:∀ x,x∈m↔x∈l):m=setI l:=sortBy_unique order_cmpI (hm.imp fun h=>(cmpI_neg _ _).2 h) hx
theorem setI_self {l:List Int} (h:l.Pairwise (· < ·)):setI l=l:=(setI_unique h fun _=>Iff.rfl).symm
def normW (w:W):W:=⟨setI w.pos,setI w.neg⟩
def consW (w:W):Bool:=!w.pos.any (w.neg.contains ·)
def partW (a b:W):Bool:=a.pos.all (b.pos.contains ·)&&a.neg.all (b.neg.contains ·)
def norms (l:List W):List W:=(l.map normW).filter consW
def minB (l:List W) (x:W):Bool:=l.all fun y=>!partW y x || y == x
def minW (l:List W):List W:=sortBy cmpW ((norms l).filter (minB (norms l)))
def Norm (w:W):Prop:=w.pos.Pairwise (· < ·)∧w.neg.Pairwise (· < ·)
theorem norm_normW (w:W):Norm (normW w):=⟨setI_sorted _,setI_sorted _⟩
theorem norms_norm {l:List W} {x:W} (h:x∈norms l):Norm x:=by
 simp only [norms,List.mem_filter,List.mem_map] at h
 obtain ⟨⟨w,_,rfl⟩,_⟩:=h; exact norm_normW w
theorem normW_self {w:W} (h:Norm w):normW w=w:=by cases w; simp [normW,setI_self h.1,setI_self h.2]
theorem partW_iff (a b:W):partW a b=true↔(∀ x∈a.pos,x∈b.pos)∧(∀ x∈a.neg,x∈b.neg):=by
 simp [partW,List.all_eq_true]
theorem minB_iff (l:List W) (x:W):minB l x=true↔∀ y∈l,partW y x=true→y=x:=by
 simp only [minB,List.all_eq_true,Bool.or_eq_true,Bool.not_eq_true',beq_iff_eq]
 constructor
 ·intro h y hy hp; rcases h y hy with h | h
  ·rw [hp] at h; cases h
  ·exact h
 ·intro h y hy
  cases hp:partW y x with
  | false=>exact .inl rfl
  | true=>exact .inr (h y hy hp)
theorem mem_minW (l:List W) (x:W):x∈minW l↔x∈norms l∧∀ y∈norms l,partW y x=true→y=x:=by
 rw [minW,mem_sortBy order_cmpW,List.mem_filter,minB_iff]
theorem minW_unique {l m:List W} (hm:m.Pairwise (fun a b=>cmpW a b<0)) (hx:∀ x,x∈m↔x∈norms l∧∀ y∈norms l,partW y x=true→y=x):m=minW l:=
 sortBy_unique order_cmpW hm fun x=>by rw [hx,List.mem_filter,minB_iff]
theorem minW_congr {l m:List W} (h:∀ x,x∈norms l↔x∈norms m):minW l=minW m:=by
 refine minW_unique (sortBy_sorted order_cmpW _) fun x=>?_
 show x∈minW l↔_
 rw [mem_minW,h]
 constructor
 ·rintro ⟨h1,h2⟩; exact ⟨h1,fun y hy=>h2 y ((h y).2 hy)⟩
 ·rintro ⟨h1,h2⟩; exact ⟨h1,fun y hy=>h2 y ((h y).1 hy)⟩
theorem partW_trans {a b c:W} (h1:partW a b=true) (h2:partW b c=true):partW a c=true:=by
 rw [partW_iff] at *; exact ⟨fun x hx=>h2.1 x (h1.1 x hx),fun x hx=>h2.2 x (h1.2 x hx)⟩
theorem partW_refl (a:W):partW a a=true:=by rw [partW_iff]; exact ⟨fun _ h=>h,fun _ h=>h⟩
theorem sub_len:∀ {l m:List Int},l.Pairwise (· < ·)→m.Pairwise (· < ·)→(∀ x∈l,x∈m)→l.length≤m.length∧(l.length=m.length→l=m)
 | [],m,_,_,_=>by
  refine ⟨by simp,fun h=>?_⟩
  cases m with
  | nil=>rfl
  | cons _ _=>simp at h
 | x::l,[],_,_,h=>by have:=h x (by simp); simp at this
 | x::l,y::m,hl,hm,h=>by
  have hl0:=hl; have hm0:=hm
  rw [List.pairwise_cons] at hl hm
  by_cases e:x=y
  ·subst e
   have ih:=sub_len hl.2 hm.2 (fun z hz=>by
    have:=h z (by simp [hz])
    rw [List.mem_cons] at this
    rcases this with rfl | h'
    ·have:=hl.1 z hz; omega
    ·exact h')
   refine ⟨by simp; omega,fun h'=>?_⟩
   rw [ih.2 (by simpa using h')]
  ·have hy:y<x:=by
    have:=h x (by simp)
    rw [List.mem_cons] at this
    rcases this with rfl | h'
    ·exact (e rfl).elim
    ·exact hm.1 x h'
   have ih:=sub_len hl0 hm.2 (fun z hz=>by
    have:=h z hz
    rw [List.mem_cons] at this
    rcases this with rfl | h'
    ·rw [List.mem_cons] at hz
     rcases hz with rfl | hz
     ·omega
     ·have:=hl.1 z hz; omega
    ·exact h')
   refine ⟨by simp only [List.length_cons] at *; omega,fun h'=>?_⟩
   have:=ih.1
   simp only [List.length_cons] at *; omega
theorem partW_size {a b:W} (ha:Norm a) (hb:Norm b) (h:partW a b=true):sizeW a≤sizeW b∧(sizeW a=sizeW b→a=b):=by
 rw [partW_iff] at h
 have h1:=sub_len ha.1 hb.1 h.1
 have h2:=sub_len ha.2 hb.2 h.2
 unfold sizeW
 refine ⟨by omega,fun e=>?_⟩
 cases a; cases b
 simp only [W.mk.injEq]
 exact ⟨h1.2 (by omega),h2.2 (by omega)⟩
theorem min_below {l:List W}:∀ (n:Nat) {x:W},sizeW x≤n→x∈norms l→∃ y∈minW l,partW y x=true
 | 0,x,hn,hx=>by
  refine ⟨x,(mem_minW l x).2 ⟨hx,fun y hy hp=>?_⟩,partW_refl x⟩
  have:=partW_size (norms_norm hy) (norms_norm hx) hp
  exact this.2 (by unfold sizeW at *; omega)
 | n+1,x,hn,hx=>by
  by_cases h:∀ y∈norms l,partW y x=true→y=x
  ·exact ⟨x,(mem_minW l x).2 ⟨hx,h⟩,partW_refl x⟩
  ·simp only [Classical.not_forall] at h
   obtain ⟨y,hy,hp,hne⟩:=h
   have:=partW_size (norms_norm hy) (norms_norm hx) hp
   obtain ⟨z,hz,hzp⟩:=min_below n (x:=y) (by
    have:sizeW y≠sizeW x:=fun e=>hne (this.2 e)
    omega) hy
   exact ⟨z,hz,partW_trans hzp hp⟩
theorem holdsW_iff (set:List Int) (w:W):holdsW set w=true↔(∀ x∈w.neg,x∉set)∧∀ x∈w.pos,x∈set:=by
 simp [holdsW,List.any_eq_false,List.all_eq_true]
theorem minW_set {l m:List W} (h:∀ x,x∈l↔x∈m):minW l=minW m:=minW_congr fun x=>by simp only [norms,List.mem_filter,List.mem_map,h]
theorem norms_minW (l:List W) (x:W):x∈norms (minW l)↔x∈minW l:=by
 simp only [norms,List.mem_filter,List.mem_map]
 constructor
 ·rintro ⟨⟨w,hw,rfl⟩,_⟩
  rw [normW_self (norms_norm ((mem_minW l w).1 hw).1)]; exact hw
 ·intro h
  have h1:=((mem_minW l x).1 h).1
  refine ⟨⟨x,h,normW_self (norms_norm h1)⟩,?_⟩
  simp only [norms,List.mem_filter] at h1; exact h1.2
theorem minW_minW (l:List W):minW (minW l)=minW l:=by
 refine (minW_unique (sortBy_sorted order_cmpW _) fun x=>?_).symm
 show x∈minW l↔_
 rw [norms_minW]
 constructor
 ·intro h; exact ⟨h,fun y hy hp=>((mem_minW l x).1 h).2 y ((mem_minW l y).1 ((norms_minW l y).1 hy)).1 hp⟩
 ·exact fun h=>h.1
def keepW (out:List W):List W→List W
 | []=>out
 | w::l=>keepW (if out.any (partW · w) then out else out++[w]) l
theorem keepW_spec:∀ (l done out:List W),(∀ x∈done++l,Norm x)→(done++l).Pairwise (fun a b=>ordW b a<0→False) →
  (∀ x,x∈out↔x∈done∧∀ y∈done,partW y x=true→y=x)→out.Nodup →
  (keepW out l).Nodup∧∀ x,x∈keepW out l↔x∈done++l∧∀ y∈done++l,partW y x=true→y=x
 | [],done,out,_,_,h,hn=>by simpa [keepW] using ⟨hn,h⟩
 | w::l,done,out,hnorm,hs,h,hn=>by
  have e:done++w::l=(done++[w])++l:=by simp
  rw [e] at hnorm hs ⊢
  have hw:Norm w:=hnorm w (by simp)
  have hdone:∀ x∈done,Norm x:=fun x hx=>hnorm x (by simp [hx])
  have hord:∀ x∈done,ordW w x<0→False:=by
   intro x hx
   rw [List.pairwise_append] at hs
   have:=(List.pairwise_append.1 hs.1).2.2 x hx w (by simp)
   exact this
  have hle:∀ x∈done,sizeW x≤sizeW w:=by
   intro x hx
   by_cases c:sizeW w<sizeW x
   ·exact (hord x hx (by rw [ordW_eq]; simp only; rw [if_neg (by omega)]; omega)).elim
   ·omega
  have hback:∀ x∈done,partW w x=true→w=x:=by
   intro x hx hp
   have h1:=partW_size hw (hdone x hx) hp
   exact h1.2 (by have:=hle x hx; omega)
  have hbelow:∀ (n:Nat) (x:W),sizeW x≤n→x∈done→∃ y∈out,partW y x=true:=by
   intro n
   induction n with
   | zero=>
    intro x hx0 hx
    refine ⟨x,(h x).2 ⟨hx,fun y hy hp=>?_⟩,partW_refl x⟩
    have h1:=partW_size (hdone y hy) (hdone x hx) hp
    exact h1.2 (by have:=h1.1; unfold sizeW at *; omega)
   | succ n ih=>
    intro x hxn hx
    by_cases hc:∀ y∈done,partW y x=true→y=x
    ·exact ⟨x,(h x).2 ⟨hx,hc⟩,partW_refl x⟩
    ·simp only [Classical.not_forall] at hc
     obtain ⟨y,hy,hp,hne⟩:=hc
     have h1:=partW_size (hdone y hy) (hdone x hx) hp
     obtain ⟨z,hz,hzp⟩:=ih y (by have:sizeW y≠sizeW x:=fun e=>hne (h1.2 e)
                                 omega) hy
     exact ⟨z,hz,partW_trans hzp hp⟩
  rw [keepW]
  by_cases hany:out.any (partW · w)=true
  ·rw [if_pos hany]
   refine keepW_spec l (done++[w]) out hnorm hs (fun x=>?_) hn
   rw [List.any_eq_true] at hany
   obtain ⟨z,hz,hzp⟩:=hany
   have hzd:=(h z).1 hz
   rw [h]
   constructor
   ·rintro ⟨h1,h2⟩
    refine ⟨by simp [h1],fun y hy hp=>?_⟩
    simp only [List.mem_append,List.mem_singleton] at hy
    rcases hy with hy | rfl
    ·exact h2 y hy hp
    ·exact hback x h1 hp
   ·rintro ⟨h1,h2⟩
    simp only [List.mem_append,List.mem_singleton] at h1
    rcases h1 with h1 | rfl
    ·exact ⟨h1,fun y hy=>h2 y (by simp [hy])⟩
    ·have:=h2 z (by simp [hzd.1]) hzp
     subst this
     exact hzd
  ·rw [if_neg hany]
   have hany:out.any (partW · w)=false:=by simpa using hany
   rw [List.any_eq_false] at hany
   have hnew:w∉done:=by
    intro hwd
    obtain ⟨y,hy,hp⟩:=hbelow (sizeW w).toNat w (by unfold sizeW; omega) hwd
    exact hany y hy hp
   refine keepW_spec l (done++[w]) (out++[w]) hnorm hs (fun x=>?_) ?_
   ·simp only [List.mem_append,List.mem_singleton]
    rw [h]
    constructor
    ·rintro (⟨h1,h2⟩ | rfl)
     ·refine ⟨.inl h1,fun y hy hp=>?_⟩
      rcases hy with hy | rfl
      ·exact h2 y hy hp
      ·exact hback x h1 hp
     ·refine ⟨.inr rfl,fun y hy hp=>?_⟩
      rcases hy with hy | rfl
      ·obtain ⟨z,hz,hzp⟩:=hbelow (sizeW y).toNat y (by unfold sizeW; omega) hy
       exact (hany z hz (partW_trans hzp hp)).elim
      ·rfl
    ·rintro ⟨h1,h2⟩
     rcases h1 with h1 | rfl
     ·exact .inl ⟨h1,fun y hy=>h2 y (.inl hy)⟩
     ·exact .inr rfl
   ·rw [List.nodup_append]
    refine ⟨hn,by simp,fun a ha b hb=>?_⟩
    simp only [List.mem_singleton] at hb
    subst hb
    rintro rfl
    exact hnew ((h a).1 ha).1
end Go.Proofs.YtjbhhddfaohdnaaGreatDoor
end
