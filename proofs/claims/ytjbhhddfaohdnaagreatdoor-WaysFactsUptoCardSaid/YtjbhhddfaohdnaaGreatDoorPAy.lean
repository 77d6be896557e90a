/- A part of the proof. -/
import Derived.Test.YtjbhhddfaohdnaaGreatDoorPAbs
import Derived.Deep.LoopGhost
set_option linter.all false
set_option linter.deprecated false
open Go renaming setRow_other→arJ,run_underlying→af9
open Go.Instr renaming loadAt→aqi,sureAddr→aqg,indexAt→as4
section
namespace Go.au
inductive SV where
 | dead
 | pd (d:PD)
 | ref (d:PD) (off:Nat)
 | aG (t off:Nat)
 | own (id:Nat)
 | iJ (id i off:Nat)
 | tpl (ds:List PD)
 | clo (f:FuncId) (caps:List Nat)
 | fn (F:List PD→PD→Prop)
 | box (cs:List Value)
 | gd (c:Bool) (v:SV)
 | kT (t:TypeId) (v:SV)
 | view (id k:Nat)
structure Row where
 e:TypeId
 sz:Nat
 ds:List PD
def lk {α:Type} (k:Nat):List (Nat × α)→Option α
 | []=>none
 | (j,x)::l=>if j=k then some x else lk k l
def up {α:Type} (k:Nat) (x:α):List (Nat × α)→List (Nat × α)
 | []=>[(k,x)]
 | (j,y)::l=>if j=k then (k,x)::l else (j,y)::up k x l
theorem jO {α:Type} (k j:Nat) (x:α) (l:List (Nat × α)):lk j (up k x l)=if j=k then some x else lk j l:=by
 induction l with
 | nil=>simp only [up,lk]; by_cases h:k=j <;> simp [h,eq_comm]
 | cons p l ih=>
  obtain ⟨i,y⟩:=p
  simp only [up]
  by_cases h:i=k
  ·subst h
   by_cases h2:i=j
   ·subst h2; simp [lk]
   ·simp [lk,h2,aqm h2]
  ·simp only [h,ajs,lk,ih]
   by_cases h2:i=j
   ·subst h2; simp [h]
   ·simp [h2]
abbrev jW:=List (Value × PD)
inductive dX where
 | map (m:jW)
 | it (r:Nat) (left:List Value) (cur:Option Value)
 | gone
structure St where
 n:Nat
 slots:List (Nat × SV)
 vars:List (Nat × List SV)
 rows:List (Nat × Row)
 maps:List (Nat × dX):=[]
 gs:List (Nat × SV):=[]
def St.get (s:St) (t:Nat):SV:=(lk t s.slots).getD .dead
def St.fH (s:St) (t:Nat):SV:=(lk t s.gs).getD .dead
def St.var (s:St) (t:Nat):Option (List SV):=lk t s.vars
def St.row (s:St) (i:Nat):Option Row:=lk i s.rows
def St.map (s:St) (r:Nat):Option dX:=lk r s.maps
def St.set (s:St) (t:Nat) (v:SV):St:={ s with slots:=up t v s.slots }
def St.put (s:St) (dst:Option Nat) (v:SV):St:=match dst with | some t=>s.set t v | none=>s
def St.setRow (s:St) (i:Nat) (r:Row):St:={ s with rows:=up i r s.rows }
theorem St.gW (s:St) (t j:Nat) (v:SV):(s.set t v).get j=if j=t then v else s.get j:=by
 simp only [St.get,St.set,jO]; split <;> rfl
structure Env where
 G:Pub
 vb:Nat→Nat
 rb:Nat→Option (Nat × Nat)
 bx:Nat→Nat
def rO (w:World) (G:Pub) (v:Value):List PD→Prop
 | [d]=>aN w G v d
 | ds=>∃ vs:Array Value,v = .tuple vs∧vs.size=ds.length∧∀ j,j<ds.length→aN w G (vs.getD j undef) (ds.getD j (.ak []))
def CO (w:World) (G:Pub) (rs:List PD) (e:Ending) (w':World):Prop:=
 ∃ v,e = .returned v∧rO w' (G.new w.heap.size) v rs∧Below w.heap.size w w'
def Jg (w:World) (G:Pub) (rs:List PD) (e:Ending) (w':World):Prop:=
 ∃ v,e = .returned v∧rO w' (G.new w.heap.size) v rs∧Go.RowKit.Below w.heap.size w w'
def aH (P:Program) (f:FuncId):Prop:=∀ args w,(callFunc f args).run P w = .ok (.enter f args) w
def qo (P:Program) (w:World) (G:Pub) (v:Value) (F:List PD→PD→Prop):Prop:=
 ∃ f first caps,v = .func (.func f) first caps∧aH P f ∧
  ∀ w' G',Keeps w G w' G'→Good w' G'→∀ ds r (vals:Array Value),F ds r→vals.size=ds.length →
   (∀ j,j<ds.length→aN w' G' (vals.getD j undef) (ds.getD j (.ak [])))→Calls P f (first++vals++caps) w' (CO w' G' [r])
theorem qo.keep {P:Program} {w w':World} {G G':Pub} (k:Keeps w G w' G') {v:Value} {F:List PD→PD→Prop} (h:qo P w G v F):qo P w' G' v F:=by
 obtain ⟨f,first,caps,hv,he,hc⟩:=h
 exact ⟨f,first,caps,hv,he,fun w'' G'' k'=>hc w'' G'' (k.trans k')⟩
def Rel (P:Program) (w:World) (E:Env) (row:Nat→Option Row) (v:Value):SV→Prop
 | .dead=>True
 | .pd d=>aN w E.G v d
 | .ref d off=>∃ b base,v = .pointer (some ⟨b,base+off,none⟩)∧lX w E.G b base d
 | .aG t off=>v = .pointer (some ⟨E.vb t,off,none⟩)
 | .own id=>∀ r,row id=some r→(E.rb id=none∧v = .slice none 0 0)∨∃ b cap,E.rb id=some (b,cap)∧v = .slice (some ⟨b,0,none⟩) r.ds.length cap
 | .iJ id i off=>∀ r,row id=some r→∃ b cap,E.rb id=some (b,cap)∧v = .pointer (some ⟨b,i * r.sz+off,none⟩)
 | .tpl ds=>∃ vs:Array Value,v = .tuple vs∧vs.size=ds.length∧∀ j,j<ds.length→aN w E.G (vs.getD j undef) (ds.getD j (.ak []))
 | .clo f caps=>v = .func (.func f) #[] (caps.map fun t=>.pointer (some ⟨E.vb t,0,none⟩)).toArray
 | .fn F=>qo P w E.G v F
 | .box _=>True
 | .gd c x=>c=true→Rel P w E row v x
 | .kT t x=>∃ u,v = .iface t u∧Rel P w E row u x
 | .view id k=>∀ r,row id=some r→k≤r.ds.length∧∃ b cap,E.rb id=some (b,cap)∧v = .slice (some ⟨b,k * r.sz,none⟩) (r.ds.length - k) (cap - k)
theorem Rel.keep {P:Program} {w w':World} {E E':Env} {row:Nat→Option Row} (k:Keeps w E.G w' E'.G) (hv:E'.vb=E.vb) (hr:E'.rb=E.rb) {v:Value} {x:SV}
  (h:Rel P w E row v x):Rel P w' E' row v x:=by
 induction x generalizing v with
 | dead=>trivial
 | pd d=>exact aN.keep k h
 | ref d off=>obtain ⟨b,base,e,h⟩:=h; exact ⟨b,base,e,h.keep k⟩
 | aG t off=>simpa only [Rel,hv] using h
 | own id=>simpa only [Rel,hr] using h
 | iJ id i off=>simpa only [Rel,hr] using h
 | view id k=>simpa only [Rel,hr] using h
 | tpl ds=>obtain ⟨vs,e,hs,h⟩:=h; exact ⟨vs,e,hs,fun j hj=>(h j hj).keep k⟩
 | clo f caps=>simpa only [Rel,hv] using h
 | fn F=>exact qo.keep k h
 | box _=>trivial
 | gd c x ih=>exact fun hc=>ih (h hc)
 | kT t x ih=>obtain ⟨u,e,h⟩:=h; exact ⟨u,e,ih h⟩
structure Kept (d:Bool) (mu:Nat→Prop) (w w':World):Prop where
 os:w'.os=w.os
 tape:w'.tape=w.tape
 output:w'.output=w.output
 size:w.heap.size≤w'.heap.size
 block:∀ k,k<w.heap.size→¬ mu k→w'.heap[k]? = w.heap[k]?
 drawn:d=true→w.drawn≤w'.drawn
theorem Kept.refl (d:Bool) (mu:Nat→Prop) (w:World):Kept d mu w w:=⟨rfl,rfl,rfl,aew _,fun _ _ _=>rfl,fun _=>aew _⟩
theorem Kept.trans {d:Bool} {mu:Nat→Prop} {a b c:World} (h:Kept d mu a b) (k:Kept d mu b c):Kept d mu a c:=
 ⟨k.os.trans h.os,k.tape.trans h.tape,k.output.trans h.output,ajk h.size k.size,fun i hi hm=>(k.block i (ajq hi h.size) hm).trans (h.block i hi hm),fun e=>ajk (h.drawn e) (k.drawn e)⟩
theorem Kept.of_below {d:Bool} {mu:Nat→Prop} {a b:World} (h:Below a.heap.size a b):Kept d mu a b:=⟨h.os,h.tape,h.output,h.size,fun k hk _=>h.block k hk,fun _=>h.drawn⟩
theorem Kept.Fj {d:Bool} {mu:Nat→Prop} {a b:World} (h:Go.RowKit.Below a.heap.size a b) (hd:d=true→a.drawn≤b.drawn):Kept d mu a b:=⟨h.os,h.tape,h.output,h.size,fun k hk _=>h.block k hk,hd⟩
theorem Kept.below {a b:World} (h:Kept true (fun _=>False) a b):Below a.heap.size a b:=⟨⟨h.os,h.tape,h.output,h.size,fun k hk=>h.block k hk (fun f=>f)⟩,h.drawn rfl⟩
theorem Kept.y8 {d:Bool} {a b:World} (h:Kept d (fun _=>False) a b):Go.RowKit.Below a.heap.size a b:=⟨h.os,h.tape,h.output,h.size,fun k hk=>h.block k hk (fun f=>f)⟩
theorem Kept.mono {d:Bool} {mu mu':Nat→Prop} {a b:World} (h:Kept d mu a b) (hm:∀ k,mu k→mu' k):Kept d mu' a b:=⟨h.os,h.tape,h.output,h.size,fun k hk hn=>h.block k hk (fun h=>hn (hm k h)),h.drawn⟩
structure Cx where
 P:Program
 w0:World
 G0:Pub
 post:Exit→Act→World→Prop
 mu:Nat→Prop:=fun _=>False
 df:List Deferred:=[]
 vb0:Nat→Option Nat:=fun _=>none
 iH:Nat→Option (Option (Nat × Nat)):=fun _=>none
 ghost:Nat→Value:=fun _=>undef
 dr:Bool:=true
def Mine (C:Cx) (G:Pub) (w:World) (b:Nat) (cur:Array Value) (e:TypeId):Prop:=
 (C.w0.heap.size≤b∨C.mu b)∧(∀ o,¬ G b o)∧w.heap[b]? = some (.cells cur e (0,0))
def MapAt (w:World) (G:Pub) (r:Nat) (m:jW):Prop:=
 (∀ o,¬ G r o)∧∃ (es:Array MapEntry) (clock:Nat),w.heap[r]? = some (.map es clock)∧es.size=m.length ∧
  (∀ i,i<m.length→(es.getD i default).key=(m.getD i (undef,.ak [])).1∧aN w G (es.getD i default).val (m.getD i (undef,.ak [])).2) ∧
  (∀ i j,i<j→j<es.size→(es.getD i default).born<(es.getD j default).born)∧(∀ i,i<es.size→(es.getD i default).born<clock)∧(m.map (·.1)).Nodup
def anr (w:World) (b r:Nat) (left:List Value) (cur:Option Value):Prop:=
 ∃ (since last clock:Nat) (seen:Array Nat) (es:Array MapEntry),w.heap[b]? = some (.mapIter (some r) since seen last)∧w.heap[r]? = some (.map es clock)∧since=clock∧last=clock ∧
  ((es.toList.map fun e=>(e.key,e.born)).filter fun p=>!seen.contains p.2).map (·.1)=left∧(∀ k,cur=some k→∃ p∈(es.toList.map fun e=>(e.key,e.born)),p.1=k∧seen.back? = some p.2)
def gJ (C:Cx) (w:World) (G:Pub) (b:Nat):dX→Prop
 | .map m=>MapAt w G b m
 | .it r left cur=>(C.w0.heap.size≤b∧∀ o,¬ G b o)∧anr w b r left cur
 | .gone=>b<w.heap.size∧∃ x,w.heap[b]? = some x∧∀ cs e d,x≠.cells cs e d
theorem MapAt.keep {w w':World} {G G':Pub} (k:Keeps w G w' G') {r:Nat} (hn:∀ o,¬ G' r o) (hb:w'.heap[r]? = w.heap[r]?) {m:jW} (h:MapAt w G r m):MapAt w' G' r m:=by
 obtain ⟨_,es,clock,h1,h2,h3,h4⟩:=h
 exact ⟨hn,es,clock,hb.trans h1,h2,fun i hi=>⟨(h3 i hi).1,(h3 i hi).2.keep k⟩,h4⟩
theorem MapAt.lt {w:World} {G:Pub} {r:Nat} {m:jW} (h:MapAt w G r m):r<w.heap.size:=by
 obtain ⟨_,es,clock,h1,_⟩:=h; exact (ad6.1 h1).1
theorem gJ.lt {C:Cx} {w:World} {G:Pub} {b:Nat} {o:dX} (h:gJ C w G b o):b<w.heap.size:=by
 cases o with
 | map m=>exact MapAt.lt h
 | it r l c=>obtain ⟨_,_,_,_,_,_,h1,_⟩:=h; exact (ad6.1 h1).1
 | gone=>exact h.1
theorem gJ.keep {C:Cx} {w w':World} {G G':Pub} (k:Keeps w G w' G') {b:Nat} (hn:(∀ o,¬ G b o)→∀ o,¬ G' b o) (hb:∀ (i:Nat) (x:Obj),w.heap[i]? = some x→(∀ cs e d,x≠.cells cs e d)→w'.heap[i]? = some x) {o:dX} (h:gJ C w G b o):gJ C w' G' b o:=by
 cases o with
 | map m=>
  refine MapAt.keep k (hn h.1) ?_ h
  obtain ⟨_,es,clock,h1,_⟩:=h
  rw [h1]; exact hb _ _ h1 (by intros; simp)
 | it r l c=>
  obtain ⟨h0,since,last,clock,seen,es,h1,h2,h3⟩:=h
  exact ⟨⟨h0.1,hn h0.2⟩,since,last,clock,seen,es,hb _ _ h1 (by intros; simp),hb _ _ h2 (by intros; simp),h3⟩
 | gone=>
  obtain ⟨_,x,h1,h2⟩:=h
  exact ⟨(ad6.1 (hb _ _ h1 h2)).1,x,hb _ _ h1 h2,h2⟩
structure aF (C:Cx) (s:St) (a:Act) (w:World) (E:Env):Prop where
 kept:Kept C.dr C.mu C.w0 w
 defers:a.defers=C.df
 size:a.tmps.size=s.n
 g0:∀ b o,C.G0 b o→E.G b o
 g1:∀ b o,E.G b o→C.G0 b o∨C.w0.heap.size≤b
 gw:∀ b o,E.G b o→b<w.heap.size
 tab:Tab w E.G
 slots:∀ t,Rel C.P w E s.row (a.tmps.getD t undef) (s.get t)
 bG:∀ t,Rel C.P w E s.row (C.ghost t) (s.fH t)
 vars:∀ t cs,s.var t=some cs→∃ cur e,Mine C E.G w (E.vb t) cur e∧cur.size=cs.length∧∀ j,j<cs.length→(cur.getD j undef).oneCell'=true∧Rel C.P w E s.row (cur.getD j undef) (cs.getD j .dead)
 rows:∀ i r,s.row i=some r→(E.rb i=none∧r.ds=[])∨∃ b cap cur,E.rb i=some (b,cap)∧Mine C E.G w b cur r.e∧cur.size=cap * r.sz∧r.ds.length≤cap∧cap≤maxLen ∧
   (∀ k,k<r.ds.length→(r.ds.getD k (.ak [])).width=r.sz) ∧
   (∀ k j,k<r.ds.length→j<r.sz→Rd w E.G (cur.getD (k * r.sz+j) undef) ((r.ds.getD k (.ak [])).cell j))
 maps:∀ r m,s.map r=some m→gJ C w E.G r m
 boxes:∀ t cs,s.get t = .box cs→a.tmps.getD t undef = .pointer (some ⟨E.bx t,0,none⟩)∧(∃ e,Mine C E.G w (E.bx t) cs.toArray e)∧∀ v∈cs,v.oneCell'=true
 vv:∀ t t' cs cs',s.var t=some cs→s.var t'=some cs'→E.vb t=E.vb t'→t=t'
 rr:∀ i i' r r' p,s.row i=some r→s.row i'=some r'→E.rb i=some p→∀ p',E.rb i'=some p'→p.1=p'.1→i=i'
 vr:∀ t cs i r p,s.var t=some cs→s.row i=some r→E.rb i=some p→E.vb t≠p.1
 bb:∀ t t' cs cs',s.get t = .box cs→s.get t' = .box cs'→E.bx t=E.bx t'→t=t'
 bv:∀ t t' cs cs',s.get t = .box cs→s.var t'=some cs'→E.bx t≠E.vb t'
 br:∀ t cs i r p,s.get t = .box cs→s.row i=some r→E.rb i=some p→E.bx t≠p.1
 dU:∀ t b,C.vb0 t=some b→E.vb t=b
 dN:∀ i p,C.iH i=some p→E.rb i=p
 dD:∀ i r p,s.row i=some r→E.rb i=some p→C.iH i=none→C.w0.heap.size≤p.1
theorem aF.good {C:Cx} {s:St} {a:Act} {w:World} {E:Env} (g:aF C s a w E):Good w E.G:=⟨g.gw,g.tab⟩
inductive KI where
 | code (c:Code)
 | ops (all:Array Oper) (l:List Oper)
 | inBlock (id:Nat)
 | aP (J:St→Prop)
def fin (C:Cx):List KI→Exit→Act→World→Prop
 | [],e,a,w=>C.post e a w
 | .code c::k,.normal,a,w=>c.wp C.P (fin C k) a w
 | .ops all l::k,.normal,a,w=>wpList C.P all (fin C k) l a w
 | .inBlock _::k,.normal,a,w=>fin C k .normal a w
 | .aP J::_,.normal,a,w=>∃ s E,J s∧aF C s a w E
 | .inBlock id::k,.exit id',a,w=>if id'=id then fin C k .normal a w else fin C k (.exit id') a w
 | _::k,e,a,w=>fin C k e a w
def R (C:Cx) (k:List KI) (s:St):Prop:=∀ a w E,aF C s a w E→fin C k .normal a w
section
variable {C:Cx} {k:List KI} {s:St}
theorem aeE (C:Cx) (k:List KI) (y:Code):fin C (.code y::k)=Exit.then (y.wp C.P (fin C k)) (fin C k):=by
 funext e a w; cases e <;> rfl
theorem Yl (C:Cx) (k:List KI) (id:Nat):fin C (.inBlock id::k)=Exit.inBlock id (fin C k):=by
 funext e a w; cases e <;> rfl
theorem R.seq {x y:Code} (h:R C (.code x :: .code y::k) s):R C (.code (.seq x y)::k) s:=
 fun a w E g=>wp_seq (by have:=h a w E g; simp only [fin] at this; rwa [aeE] at this)
theorem R.skip (h:R C k s):R C (.code .skip::k) s:=fun a w E g=>wp_skip (h a w E g)
theorem R.block {id:Nat} {c:Code} (h:R C (.code c :: .inBlock id::k) s):R C (.code (.block id c)::k) s:=
 fun a w E g=>wp_block (by have:=h a w E g; simp only [fin] at this; rwa [Yl] at this)
theorem R.inBlock {id:Nat} (h:R C k s):R C (.inBlock id::k) s:=h
def jh (id:Nat):List KI→Option (List KI)
 | .inBlock id' :: k=>if id=id' then some k else jh id k
 | _::k=>jh id k
 | []=>none
theorem sW {C:Cx} {id:Nat}:∀ {k k':List KI},jh id k=some k'→∀ a w,fin C k' .normal a w→fin C k (.exit id) a w
 | [],_,h,_,_,_=>by simp [jh] at h
 | .inBlock id' :: k,k',h,a,w,hf=>by
  simp only [jh] at h
  simp only [fin]
  split at h
  ·rename_i e; simp only [ad2] at h; subst h; rw [adA e]; exact hf
  ·rename_i e; rw [adt e]; exact sW h a w hf
 | .code c::k,k',h,a,w,hf=>sW (k:=k) (by simpa [jh] using h) a w hf
 | .ops x y::k,k',h,a,w,hf=>sW (k:=k) (by simpa [jh] using h) a w hf
 | .aP J::k,k',h,a,w,hf=>sW (k:=k) (by simpa [jh] using h) a w hf
theorem R.exit {id:Nat} {k':List KI} (he:jh id k=some k') (h:R C k' s):R C (.code (.exit id)::k) s:=
 fun a w E g=>wp_exit (sW he a w (h a w E g))
theorem CP {C:Cx} (a:Act) (w:World) (h:C.post .ret a w):∀ k,fin C k .ret a w
 | []=>h
 | .inBlock _::k=>CP a w h k
 | .code _::k=>CP a w h k
 | .ops _ _::k=>CP a w h k
 | .aP _::k=>CP a w h k
theorem R.ret (h:∀ a w E,aF C s a w E→C.post .ret a w):R C (.code .ret::k) s:=
 fun a w E g=>wp_ret (CP a w (h a w E g) k)
theorem R.over (h:∀ a w E,aF C s a w E→C.post .normal a w):R C [] s:=h
theorem oG {C:Cx} {ch:List PanicEntry} (a:Act) (w:World) (h:C.post (.panic ch) a w):∀ k,fin C k (.panic ch) a w
 | []=>h
 | .inBlock _::k=>oG a w h k
 | .code _::k=>oG a w h k
 | .ops _ _::k=>oG a w h k
 | .aP _::k=>oG a w h k
theorem aF.bool {a:Act} {w:World} {E:Env} (g:aF C s a w E) {t:Nat} {b:Bool} (h:s.get t = .pd (.raw (.bool b))):a.tmps.getD t undef = .bool b:=by
 have:=g.slots t
 rw [h] at this
 exact aN.aK this
theorem R.cond {t:Nat} {x y:Code} {b:Bool} (hb:s.get t = .pd (.raw (.bool b))) (h1:b=true→R C (.code x::k) s) (h2:b=false→R C (.code y::k) s):
  R C (.code (.cond (.tmp t) x y)::k) s:=
 fun a w E g=>wp_cond_split (t:=b) (g.bool hb) (fun e=>h1 e a w E g) (fun e=>h2 e a w E g)
theorem R.loop {c:Code} (J:Nat→St→Prop) (n0:Nat) (h0:J n0 s)
  (round:∀ n s,J n s→R C (.code c :: .aP (fun s'=>∃ n',n' < n∧J n' s')::k) s):R C (.code (.loop c)::k) s:=by
 intro a w E g
 refine wp_loop_ghost (fun n a w=>∃ s E,J n s∧aF C s a w E) n0 ⟨s,E,h0,g⟩ ?_
 rintro n a w ⟨s,E,hJ,g⟩
 refine wp_mono (round n s hJ a w E g) ?_
 intro e a' w' hq
 cases e with
 | normal=>obtain ⟨s',E',⟨n',hn,hJ'⟩,g'⟩:=hq; exact ⟨n',hn,s',E',hJ',g'⟩
 | exit id=>exact hq
 | goto l=>exact hq
 | ret=>exact hq
 | panic ch=>exact hq
 | outgrown=>exact hq
theorem R.aP {J:St→Prop} (h:J s):R C (.aP J::k) s:=fun _ _ E g=>⟨s,E,h,g⟩
theorem R.region {id:Nat} {ops:Array Oper} (h:R C (.ops ops ops.toList::k) s):R C (.code (.region id ops false)::k) s:=
 fun a w E g=>wp_region_list (h a w E g)
theorem R.nil {all:Array Oper} (h:R C k s):R C (.ops all []::k) s:=h
end
theorem gX {α β:Type} (f:α→β) (k:Nat) (l:List (Nat × α)):lk k (l.map fun p=>(p.1,f p.2))=(lk k l).map f:=by
 induction l with
 | nil=>rfl
 | cons p l ih=>obtain ⟨j,x⟩:=p; simp only [ads,lk]; split <;> simp [ih]
def SV.kill (t:Nat):SV→SV
 | .aG t' off=>if t'=t then .dead else .aG t' off
 | .clo f caps=>if caps.contains t then .dead else .clo f caps
 | .gd c v=>.gd c (v.kill t)
 | .kT i v=>.kT i (v.kill t)
 | v=>v
def SV.aQ (i:Nat):SV→SV
 | .own i'=>if i'=i then .dead else .own i'
 | .iJ i' k off=>if i'=i then .dead else .iJ i' k off
 | .view i' k=>if i'=i then .dead else .view i' k
 | .gd c v=>.gd c (v.aQ i)
 | .kT t v=>.kT t (v.aQ i)
 | v=>v
def St.newVar (s:St) (t:Nat) (cs:List SV):St:=
 { s with slots:=up t (.aG t 0) (s.slots.map fun p=>(p.1,p.2.kill t)),vars:=up t cs (s.vars.map fun p=>(p.1,p.2.map (SV.kill t))),gs:=s.gs.map fun p=>(p.1,p.2.kill t) }
def St.setVar (s:St) (t:Nat) (cs:List SV):St:={ s with vars:=up t cs s.vars }
def St.newRow (s:St) (i:Nat) (r:Row):St:=
 { s with slots:=s.slots.map fun p=>(p.1,p.2.aQ i),vars:=s.vars.map fun p=>(p.1,p.2.map (SV.aQ i)),rows:=up i r s.rows,gs:=s.gs.map fun p=>(p.1,p.2.aQ i) }
theorem SV.aa1 (t:Nat) (v:SV) (cs:List Value) (h:v.kill t = .box cs):v = .box cs:=by
 cases v <;> simp only [SV.kill] at h <;> first | exact h | (split at h <;> cases h) | cases h
theorem SV.Us (t:Nat) (v:SV) (cs:List Value) (h:v.aQ t = .box cs):v = .box cs:=by
 cases v <;> simp only [SV.aQ] at h <;> first | exact h | (split at h <;> cases h) | cases h
section
variable {C:Cx} {s:St} {a:Act} {w w':World} {E:Env}
theorem gK (a:Act) (t:Nat) (u:Value) (j:Nat) (ht:t<a.tmps.size):(a.put (some t) u).tmps.getD j undef=if j=t then u else a.tmps.getD j undef:=by
 simp only [Act.put]
 by_cases h:j=t
 ·subst h; simp [ht]
 ·simp [h,aqm h]
theorem aF.put (g:aF C s a w E) {t:Nat} (ht:t<s.n) {u:Value} {v:SV} (h:Rel C.P w E s.row u v) (hv:∀ cs,v≠.box cs):aF C (s.set t v) (a.put (some t) u) w E:=by
 have hta:t<a.tmps.size:=by rw [g.size]; exact ht
 have nb:∀ j cs,(s.set t v).get j = .box cs→j≠t∧s.get j = .box cs:=by
  intro j cs hj
  rw [St.gW] at hj
  split at hj
  ·exact (hv cs hj).elim
  ·exact ⟨by assumption,hj⟩
 exact {
  kept:=g.kept
  defers:=g.defers
  size:=(show (a.tmps.setIfInBounds t _).size=s.n by rw [asU]; exact g.size)
  g0:=g.g0
  g1:=g.g1
  tab:=g.tab
  gw:=g.gw
  slots:=fun j=>by
   rw [gK a t u j hta,St.gW]
   split
   ·exact h
   ·exact g.slots j
  bG:=g.bG
  vars:=g.vars
  rows:=g.rows
  maps:=g.maps
  boxes:=fun j cs hj=>by
   obtain ⟨hne,hj⟩:=nb j cs hj
   rw [gK a t u j hta,adt hne]
   exact g.boxes j cs hj
  vv:=g.vv
  rr:=g.rr
  vr:=g.vr
  bb:=fun j j' cs cs' hj hj'=>g.bb j j' cs cs' (nb j cs hj).2 (nb j' cs' hj').2
  bv:=fun j t' cs cs' hj=>g.bv j t' cs cs' (nb j cs hj).2
  br:=fun j cs i r p hj=>g.br j cs i r p (nb j cs hj).2
  dU:=g.dU
  dN:=g.dN
  dD:=g.dD }
theorem aF.dead (g:aF C s a w E) {t:Nat} (ht:t<s.n) (u:Value):aF C (s.set t .dead) (a.put (some t) u) w E:=
 g.put ht (v:=.dead) trivial (by simp)
theorem Mine.lt {G:Pub} {b:Nat} {cur:Array Value} {e:TypeId} (m:Mine C G w b cur e):b<w.heap.size:=by
 obtain ⟨_,_,h⟩:=m; exact (ad6.1 h).1
theorem aF.J6 (g:aF C s a w E) (hb:Go.RowKit.Below w.heap.size w w') (hdr:C.dr=true→w.drawn≤w'.drawn) (G':Pub) (hG:∀ b o,E.G b o→G' b o)
  (hN:∀ b o,G' b o→E.G b o∨(w.heap.size≤b∧b<w'.heap.size)):aF C s a w' { E with G:=G' }:=by
 have hk:Keeps w E.G w' G':=Keeps.tN g.gw hb hG
 have h0:C.w0.heap.size≤w.heap.size:=g.kept.size
 have mn:∀ b cur e,Mine C E.G w b cur e→Mine C G' w' b cur e:=by
  intro b cur e m
  have hl:=m.lt
  obtain ⟨h1,h2,h3⟩:=m
  refine ⟨h1,fun o ho=>?_,by rw [hb.block b hl]; exact h3⟩
  rcases hN b o ho with h | h
  ·exact h2 o h
  ·omega
 exact {
  kept:=g.kept.trans (.Fj hb hdr)
  defers:=g.defers
  size:=g.size
  g0:=fun b o h=>hG b o (g.g0 b o h)
  g1:=fun b o h=>by
   rcases hN b o h with h | h
   ·exact g.g1 b o h
   ·exact .inr (by omega)
  tab:=g.tab.keep hk
  gw:=fun b o h=>by
   rcases hN b o h with h | h
   ·exact ajq (g.gw b o h) hb.size
   ·exact h.2
  slots:=fun t=>(g.slots t).keep (E':={ E with G:=G' }) hk rfl rfl
  bG:=fun t=>(g.bG t).keep (E':={ E with G:=G' }) hk rfl rfl
  vars:=fun t cs h=>by
   obtain ⟨cur,e,m,hs,hr⟩:=g.vars t cs h
   exact ⟨cur,e,mn _ _ _ m,hs,fun j hj=>⟨(hr j hj).1,(hr j hj).2.keep (E':={ E with G:=G' }) hk rfl rfl⟩⟩
  rows:=fun i r h=>by
   rcases g.rows i r h with h | ⟨b,cap,cur,h1,m,h2,h3,h4,h5,h6⟩
   ·exact .inl h
   ·exact .inr ⟨b,cap,cur,h1,mn _ _ _ m,h2,h3,h4,h5,fun k j hk' hj=>(h6 k j hk' hj).keep hk⟩
  boxes:=fun t cs h=>by
   obtain ⟨h1,⟨e,m⟩,h2⟩:=g.boxes t cs h
   exact ⟨h1,⟨e,mn _ _ _ m⟩,h2⟩
  maps:=fun r m h=>(g.maps r m h).keep hk (fun hn o ho=>by
   rcases hN r o ho with h1 | h1
   ·exact hn o h1
   ·have:=(g.maps r m h).lt; omega) (fun i x hx _=>(hb.block i (ad6.1 hx).1).trans hx)
  vv:=g.vv
  rr:=g.rr
  vr:=g.vr
  bb:=g.bb
  bv:=g.bv
  br:=g.br
  dU:=g.dU
  dN:=g.dN
  dD:=g.dD }
theorem aF.grow (g:aF C s a w E) (hb:Below w.heap.size w w') (G':Pub) (hG:∀ b o,E.G b o→G' b o)
  (hN:∀ b o,G' b o→E.G b o∨(w.heap.size≤b∧b<w'.heap.size)):aF C s a w' { E with G:=G' }:=g.J6 hb.toBelow (fun _=>hb.drawn) G' hG hN
theorem dQ (w:World) (o:Obj):Below w.heap.size w (w.alloc o):=(Below.refl _ w).alloc (aew _) o
theorem yF (w:World):Below w.heap.size w w.drew:=(Below.refl _ w).drew
theorem aF.drew (g:aF C s a w E):aF C s a { w with drawn:=w.drawn+1 } E:=
 g.grow (w':={ w with drawn:=w.drawn+1 }) ⟨⟨rfl,rfl,rfl,aew _,fun _ _=>rfl⟩,Nat.le_succ _⟩ E.G (fun _ _ h=>h) (fun _ _ h=>.inl h)
theorem aF.y9 (g:aF C s a w E) {t:Nat} {cs:List Value} (h:s.get t = .box cs):E.bx t<w.heap.size:=by
 obtain ⟨_,⟨_,m⟩,_⟩:=g.boxes t cs h; exact m.lt
theorem aF.zf (g:aF C s a w E) {t:Nat} {cs:List SV} (h:s.var t=some cs):E.vb t<w.heap.size:=by
 obtain ⟨_,_,m,_⟩:=g.vars t cs h; exact m.lt
theorem aF.mF (g:aF C s a w E) {i:Nat} {r:Row} (h:s.row i=some r) {p:Nat × Nat} (hp:E.rb i=some p):p.1<w.heap.size:=by
 rcases g.rows i r h with ⟨h1,_⟩ | ⟨b,cap,cur,h1,m,_⟩
 ·rw [h1] at hp; cases hp
 ·rw [h1] at hp; cases hp; exact m.lt
theorem aF.box (g:aF C s a w E) {t:Nat} (ht:t<s.n) (zs:List Value) (hz:∀ v∈zs,v.oneCell'=true) (e:TypeId):
  aF C (s.set t (.box zs)) (a.put (some t) (.pointer (some ⟨w.heap.size,0,none⟩))) (w.alloc (.cells zs.toArray e)) { E with bx:=fun j=>if j=t then w.heap.size else E.bx j }:=by
 have g':=g.grow (w':=w.alloc (.cells zs.toArray e)) (dQ w _) E.G (fun _ _ h=>h) (fun _ _ h=>.inl h)
 have hta:t<a.tmps.size:=by rw [g.size]; exact ht
 have hn:∀ j cs,j≠t→(s.set t (.box zs)).get j = .box cs→s.get j = .box cs:=fun j cs hne hj=>by rwa [St.gW,adt hne] at hj
 exact {
  kept:=g'.kept
  defers:=g'.defers
  size:=(show (a.tmps.setIfInBounds t _).size=s.n by rw [asU]; exact g.size)
  g0:=g'.g0
  g1:=g'.g1
  tab:=g'.tab
  gw:=g'.gw
  slots:=fun j=>by
   rw [gK a t _ j hta,St.gW]
   split
   ·trivial
   ·exact Rel.keep (E:={ E with G:=E.G }) (row:=s.row) (E':={ E with bx:=fun j=>if j=t then w.heap.size else E.bx j }) (Keeps.refl _ _) rfl rfl (g'.slots j)
  bG:=fun j=>Rel.keep (E:={ E with G:=E.G }) (row:=s.row) (E':={ E with bx:=fun j=>if j=t then w.heap.size else E.bx j }) (Keeps.refl _ _) rfl rfl (g'.bG j)
  vars:=fun t' cs h=>by
   obtain ⟨cur,e',m,hs,hr⟩:=g'.vars t' cs h
   exact ⟨cur,e',m,hs,fun j hj=>⟨(hr j hj).1,Rel.keep (E:={ E with G:=E.G }) (row:=s.row) (E':={ E with bx:=fun j=>if j=t then w.heap.size else E.bx j }) (Keeps.refl _ _) rfl rfl (hr j hj).2⟩⟩
  rows:=g'.rows
  maps:=g'.maps
  dU:=g.dU
  dN:=g.dN
  dD:=g.dD
  boxes:=fun j cs hj=>by
   by_cases h:j=t
   ·subst h
    rw [St.gW,adA rfl] at hj
    cases hj
    rw [gK a j _ j hta,adA rfl]
    refine ⟨by simp,⟨e,.inl (by simpa using g.kept.size),fun o ho=>?_,by simp only [adA]; exact heap_alloc_new w _⟩,hz⟩
    have:=g.gw _ _ ho
    simp at this
   ·rw [gK a t _ j hta,adt h]
    have:=g'.boxes j cs (hn j cs h hj)
    simpa only [adt h] using this
  vv:=g.vv
  rr:=g.rr
  vr:=g.vr
  bb:=fun j j' cs cs' hj hj' he=>by
   by_cases h:j=t <;> by_cases h':j'=t
   ·rw [h,h']
   ·simp only [h,aiq,adt h'] at he
    have:=g.y9 (hn j' cs' h' hj'); omega
   ·simp only [h',aiq,adt h] at he
    have:=g.y9 (hn j cs h hj); omega
   ·simp only [adt h,adt h'] at he
    exact g.bb j j' cs cs' (hn j cs h hj) (hn j' cs' h' hj') he
  bv:=fun j t' cs cs' hj hv=>by
   by_cases h:j=t
   ·simp only [h,aiq]
    have:=g.zf hv; omega
   ·simp only [adt h]
    exact g.bv j t' cs cs' (hn j cs h hj) hv
  br:=fun j cs i r p hj hr hp=>by
   by_cases h:j=t
   ·simp only [h,aiq]
    have:=g.mF hr hp; omega
   ·simp only [adt h]
    exact g.br j cs i r p (hn j cs h hj) hr hp }
theorem Rel.kill {P:Program} {row:Nat→Option Row} {t b:Nat} {v:Value} {x:SV} (h:Rel P w E row v x):
  Rel P w { E with vb:=fun j=>if j=t then b else E.vb j } row v (x.kill t):=by
 induction x generalizing v with
 | aG t' off=>
  simp only [SV.kill]
  split
  ·trivial
  ·rename_i hne; simpa only [Rel,adt hne] using h
 | clo f caps=>
  simp only [SV.kill]
  split
  ·trivial
  ·rename_i hc
   simp only [Rel] at h ⊢
   rw [h]
   have hne:∀ x∈caps,x≠t:=fun x hx e=>hc (by subst e; simpa using hx)
   congr 2
   exact ajh fun x hx=>by simp [hne x hx]
 | gd c x ih=>exact fun hc=>ih (h hc)
 | kT i x ih=>obtain ⟨u,e,h⟩:=h; exact ⟨u,e,ih h⟩
 | dead=>trivial
 | pd d=>exact h
 | ref d off=>exact h
 | own id=>exact h
 | iJ id i off=>exact h
 | view id k=>exact h
 | tpl ds=>exact h
 | fn F=>exact h
 | box _=>trivial
theorem Rel.aQ {P:Program} {row row':Nat→Option Row} {i:Nat} {rb':Nat→Option (Nat × Nat)} {v:Value} {x:SV} (hrow:∀ j,j≠i→row' j=row j) (hrb:∀ j,j≠i→rb' j=E.rb j)
  (h:Rel P w E row v x):Rel P w { E with rb:=rb' } row' v (x.aQ i):=by
 induction x generalizing v with
 | own id=>
  simp only [SV.aQ]
  split
  ·trivial
  ·rename_i hne
   intro r hr
   simpa only [hrb id hne] using h r (by rw [← hrow id hne]; exact hr)
 | iJ id k off=>
  simp only [SV.aQ]
  split
  ·trivial
  ·rename_i hne
   intro r hr
   simpa only [hrb id hne] using h r (by rw [← hrow id hne]; exact hr)
 | view id k=>
  simp only [SV.aQ]
  split
  ·trivial
  ·rename_i hne
   intro r hr
   simpa only [hrb id hne] using h r (by rw [← hrow id hne]; exact hr)
 | gd c x ih=>exact fun hc=>ih (h hc)
 | kT i x ih=>obtain ⟨u,e,h⟩:=h; exact ⟨u,e,ih h⟩
 | dead=>trivial
 | pd d=>exact h
 | ref d off=>exact h
 | aG t off=>exact h
 | clo f caps=>exact h
 | tpl ds=>exact h
 | fn F=>exact h
 | box _=>trivial
theorem St.uK (s:St) (t:Nat) (cs:List SV) (j:Nat):(s.newVar t cs).get j=if j=t then .aG t 0 else (s.get j).kill t:=by
 simp only [St.get,St.newVar,jO,gX]
 split
 ·rfl
 ·cases lk j s.slots <;> rfl
theorem St.J7 (s:St) (t:Nat) (cs:List SV) (j:Nat):(s.newVar t cs).var j=if j=t then some cs else (s.var j).map (List.map (SV.kill t)):=by
 simp only [St.var,St.newVar,jO,gX]
theorem St.Ut (s:St) (t:Nat) (cs:List SV) (j:Nat):(s.newVar t cs).fH j=(s.fH j).kill t:=by
 simp only [St.fH,St.newVar,gX]; cases lk j s.gs <;> rfl
theorem St.Uu (s:St) (i:Nat) (r:Row) (j:Nat):(s.newRow i r).fH j=(s.fH j).aQ i:=by
 simp only [St.fH,St.newRow,gX]; cases lk j s.gs <;> rfl
theorem St.DJ (s:St) (i:Nat) (r:Row) (j:Nat):(s.newRow i r).get j=(s.get j).aQ i:=by
 simp only [St.get,St.newRow,gX]; cases lk j s.slots <;> rfl
theorem St.J8 (s:St) (i:Nat) (r:Row) (j:Nat):(s.newRow i r).var j=(s.var j).map (List.map (SV.aQ i)):=by
 simp only [St.var,St.newRow,gX]
theorem St.iK (s:St) (i:Nat) (r:Row) (j:Nat):(s.newRow i r).row j=if j=i then some r else s.row j:=by
 simp only [St.row,St.newRow,jO]
theorem kR (f:SV→SV) (hf:f .dead = .dead) (cs:List SV) (j:Nat):(cs.map f).getD j .dead=f (cs.getD j .dead):=by
 simp only [aax,ano]
 cases cs[j]? <;> simp [hf]
theorem aF.named (g:aF C s a w E) {t b:Nat} {cs:List SV} {cur:Array Value} {e:TypeId} (lV:a.tmps.getD t undef = .pointer (some ⟨b,0,none⟩)) (m:Mine C E.G w b cur e) (hs:cur.size=cs.length)
  (hr:∀ j,j<cs.length→(cur.getD j undef).oneCell'=true∧Rel C.P w { E with vb:=fun j=>if j=t then b else E.vb j } s.row (cur.getD j undef) (cs.getD j .dead))
  (hv:∀ t' cs',s.var t'=some cs'→t'≠t→E.vb t'≠b) (hrr:∀ i r p,s.row i=some r→E.rb i=some p→b≠p.1) (hb:∀ j cs',s.get j = .box cs'→j≠t→E.bx j≠b) (hv0:C.vb0 t=none):
  aF C (s.newVar t cs) a w { E with vb:=fun j=>if j=t then b else E.vb j }:=by
 have hvar:∀ j cs',(s.newVar t cs).var j=some cs'→(j=t∧cs'=cs)∨(j≠t∧∃ cs0,s.var j=some cs0∧cs'=cs0.map (SV.kill t)):=by
  intro j cs' h
  rw [St.J7] at h
  split at h
  ·cases h; exact .inl ⟨by assumption,rfl⟩
  ·cases h0:s.var j with
   | none=>simp [h0] at h
   | some c0=>simp [h0] at h; exact .inr ⟨by assumption,c0,rfl,h.symm⟩
 have hbox:∀ j cs',(s.newVar t cs).get j = .box cs'→j≠t∧s.get j = .box cs':=by
  intro j cs' h
  rw [St.uK] at h
  split at h
  ·cases h
  ·exact ⟨by assumption,SV.aa1 t _ _ h⟩
 exact {
  kept:=g.kept
  defers:=g.defers
  size:=g.size
  g0:=g.g0
  g1:=g.g1
  tab:=g.tab
  gw:=g.gw
  slots:=fun j=>by
   rw [St.uK]
   split
   ·rename_i h; subst h; simp only [Rel,aiq]; exact lV
   ·exact (g.slots j).kill
  bG:=fun j=>by rw [St.Ut]; exact (g.bG j).kill
  vars:=fun j cs' h=>by
   rcases hvar j cs' h with ⟨rfl,rfl⟩ | ⟨hne,c0,h0,rfl⟩
   ·exact ⟨cur,e,by simpa using m,hs,hr⟩
   ·obtain ⟨vZ,e0,m0,hs0,hr0⟩:=g.vars j c0 h0
    refine ⟨vZ,e0,by simpa [hne] using m0,by simpa using hs0,fun i hi=>?_⟩
    have:=hr0 i (by simpa using hi)
    rw [kR _ rfl]
    exact ⟨this.1,this.2.kill⟩
  rows:=g.rows
  maps:=g.maps
  boxes:=fun j cs' h=>g.boxes j cs' (hbox j cs' h).2
  vv:=fun j j' c c' h h' he=>by
   rcases hvar j c h with ⟨rfl,rfl⟩ | ⟨hne,c0,h0,rfl⟩ <;> rcases hvar j' c' h' with ⟨rfl,rfl⟩ | ⟨hne',c0',h0',rfl⟩
   ·rfl
   ·simp only [aiq,adt hne'] at he; exact ((hv j' c0' h0' hne') he.symm).elim
   ·simp only [aiq,adt hne] at he; exact ((hv j c0 h0 hne) he).elim
   ·simp only [adt hne,adt hne'] at he; exact g.vv j j' c0 c0' h0 h0' he
  rr:=g.rr
  vr:=fun j c i r p h hi hp=>by
   rcases hvar j c h with ⟨rfl,rfl⟩ | ⟨hne,c0,h0,rfl⟩
   ·simp only [aiq]; exact hrr i r p hi hp
   ·simp only [adt hne]; exact g.vr j c0 i r p h0 hi hp
  bb:=fun j j' c c' h h'=>g.bb j j' c c' (hbox j c h).2 (hbox j' c' h').2
  bv:=fun j t' c c' h hv'=>by
   have hj:=hbox j c h
   rcases hvar t' c' hv' with ⟨rfl,rfl⟩ | ⟨hne,c0,h0,rfl⟩
   ·simp only [aiq]; exact hb j c hj.2 hj.1
   ·simp only [adt hne]; exact g.bv j t' c c0 hj.2 h0
  br:=fun j c i r p h=>g.br j c i r p (hbox j c h).2
  dU:=fun t' b' h=>by
   have hne:t'≠t:=fun e=>by rw [e,hv0] at h; cases h
   simp only [adt hne]; exact g.dU t' b' h
  dN:=g.dN
  dD:=g.dD }
theorem aF.Ym (g:aF C s a w E) {t:Nat} {zs:List Value} (hv0:C.vb0 t=none) (h:s.get t = .box zs):
  aF C (s.newVar t (zs.map fun v=>.pd (.raw v))) a w { E with vb:=fun j=>if j=t then E.bx t else E.vb j }:=by
 obtain ⟨lV,⟨e,m⟩,hz⟩:=g.boxes t zs h
 refine g.named lV m (by simp) (fun j hj=>?_) (fun t' cs' hv _ he=>g.bv t t' zs cs' h hv he.symm) (fun i r p hi hp=>g.br t zs i r p h hi hp) (fun j cs' hj hne he=>hne (g.bb j t cs' zs hj h he)) hv0
 simp only [adu] at hj
 have h1:zs.toArray.getD j undef=zs[j]:=by simp [hj]
 have h2:(zs.map fun v=>SV.pd (.raw v)).getD j .dead = .pd (.raw zs[j]):=by simp [hj]
 rw [h1,h2]
 exact ⟨hz _ (aaO hj),.raw _ (hz _ (aaO hj))⟩
theorem kH {G:Pub} {b:Nat} (cs:Array Value) (h:∀ o,¬ G b o):Keeps w G (w.setRow b cs) G:=
 ⟨fun _ _ h=>h,fun b' o g=>World.cell?_of_block (a:=⟨b',o,none⟩) (arJ w b b' cs (fun e=>h o (e ▸ g))),fun b' o g=>arJ w b b' cs (fun e=>h o (e ▸ g))⟩
theorem rV {b:Nat} (g:Kept C.dr C.mu C.w0 w) (cs:Array Value) (h:C.w0.heap.size≤b∨C.mu b):Kept C.dr C.mu C.w0 (w.setRow b cs):=
 ⟨g.os,g.tape,g.output,by simpa [World.setRow] using g.size,fun k hk hm=>(arJ w b k cs (fun e=>by
  subst e
  rcases h with h | h
  ·omega
  ·exact hm h)).trans (g.block k hk hm),g.drawn⟩
theorem gJ.setRow {G:Pub} {b r:Nat} {cur cs:Array Value} {e:TypeId} {m:dX} (h:gJ C w G r m) (hb:w.heap[b]? = some (.cells cur e (0,0))) (hG:∀ o,¬ G b o):gJ C (w.setRow b cs) G r m:=by
 refine h.keep (kH cs hG) (fun h=>h) (fun i x hx hn=>(arJ w b i cs (fun e=>?_)).trans hx)
 rw [e,hb] at hx; cases hx; exact hn _ _ _ rfl
theorem Mine.other {G:Pub} {b b':Nat} {cur cs:Array Value} {e:TypeId} (m:Mine C G w b cur e) (h:b≠b'):Mine C G (w.setRow b' cs) b cur e:=by
 obtain ⟨h1,h2,h3⟩:=m; exact ⟨h1,h2,by rw [arJ w b' b cs h]; exact h3⟩
theorem Mine.set {G:Pub} {b:Nat} {cur cs:Array Value} {e:TypeId} (m:Mine C G w b cur e):Mine C G (w.setRow b cs) b cs e:=by
 obtain ⟨h1,h2,h3⟩:=m; exact ⟨h1,h2,setRow_heap w b cur cs e _ h3⟩
theorem aF.store (g:aF C s a w E) {t:Nat} {cs cs':List SV} (hv:s.var t=some cs) (cur':Array Value) (hl:cur'.size=cs'.length)
  (hr:∀ j,j<cs'.length→(cur'.getD j undef).oneCell'=true∧Rel C.P w E s.row (cur'.getD j undef) (cs'.getD j .dead)):
  aF C (s.setVar t cs') a (w.setRow (E.vb t) cur') E:=by
 obtain ⟨cur,e,m,hs,_⟩:=g.vars t cs hv
 have hk:Keeps w E.G (w.setRow (E.vb t) cur') E.G:=kH cur' m.2.1
 have hvar:∀ j c,(s.setVar t cs').var j=some c→(j=t∧c=cs')∨(j≠t∧s.var j=some c):=by
  intro j c h
  simp only [St.var,St.setVar,jO] at h
  split at h
  ·cases h; exact .inl ⟨by assumption,rfl⟩
  ·exact .inr ⟨by assumption,h⟩
 have hex:∀ j c,(s.setVar t cs').var j=some c→∃ c',s.var j=some c':=by
  intro j c h
  rcases hvar j c h with ⟨rfl,_⟩ | ⟨_,h⟩
  ·exact ⟨cs,hv⟩
  ·exact ⟨c,h⟩
 exact {
  kept:=rV g.kept cur' m.1
  maps:=fun r mm h=>(g.maps r mm h).setRow m.2.2 m.2.1
  dU:=g.dU
  dN:=g.dN
  dD:=g.dD
  defers:=g.defers
  size:=g.size
  g0:=g.g0
  g1:=g.g1
  tab:=g.tab.keep hk
  gw:=fun b o h=>by simpa [World.setRow] using g.gw b o h
  slots:=fun j=>(g.slots j).keep hk rfl rfl
  bG:=fun j=>(g.bG j).keep hk rfl rfl
  vars:=fun j c h=>by
   rcases hvar j c h with ⟨rfl,rfl⟩ | ⟨hne,h⟩
   ·exact ⟨cur',e,m.set,hl,fun i hi=>⟨(hr i hi).1,(hr i hi).2.keep hk rfl rfl⟩⟩
   ·obtain ⟨vZ,e0,m0,hs0,hr0⟩:=g.vars j c h
    exact ⟨vZ,e0,m0.other (fun e=>hne (g.vv j t c cs h hv e)),hs0,fun i hi=>⟨(hr0 i hi).1,(hr0 i hi).2.keep hk rfl rfl⟩⟩
  rows:=fun i r h=>by
   rcases g.rows i r h with h | ⟨b,cap,vZ,h1,m0,h2,h3,h4,h5,h6⟩
   ·exact .inl h
   ·exact .inr ⟨b,cap,vZ,h1,m0.other (fun e=>g.vr t cs i r (b,cap) hv h h1 e.symm),h2,h3,h4,h5,fun k j hk' hj=>(h6 k j hk' hj).keep hk⟩
  boxes:=fun j c h=>by
   obtain ⟨h1,⟨e0,m0⟩,h2⟩:=g.boxes j c h
   exact ⟨h1,⟨e0,m0.other (fun e=>g.bv j t c cs h hv e)⟩,h2⟩
  vv:=fun j j' c c' h h' he=>by
   obtain ⟨_,h⟩:=hex j c h; obtain ⟨_,h'⟩:=hex j' c' h'
   exact g.vv j j' _ _ h h' he
  rr:=g.rr
  vr:=fun j c i r p h hi hp=>by obtain ⟨_,h⟩:=hex j c h; exact g.vr j _ i r p h hi hp
  bb:=g.bb
  bv:=fun j t' c c' h hv'=>by obtain ⟨_,hv'⟩:=hex t' c' hv'; exact g.bv j t' c _ h hv'
  br:=g.br }
end
section
variable {P:Program} {w:World}
theorem jE {t:TypeId} (h:aO P t≠0):(sizeOf t).run P w = .ok (aO P t) w:=by
 unfold aO at *
 cases hi:P.info? t with
 | none=>simp [hi] at h
 | some i=>simp [sizeOf,typeInfo,hi]
theorem zh {t:TypeId} (h:aW P t=true):(isAgg t).run P w = .ok (dP P t) w:=by
 unfold aW at h
 cases hu:P.underlying t with
 | none=>simp [hu] at h
 | some d=>
  unfold dP isAgg
  simp only [Sem.run_bind,af9 hu,Result.andThen_ok,hu]
  cases d <;> rfl
theorem iE {t e:TypeId} (h:fA P t=some e):P.underlying t=some (.slice e):=by
 unfold fA at h; split at h <;> simp_all
theorem aeF {t:TypeId} {n:Nat} (h:arT P t=some n):∃ e,P.underlying t=some (.array n e)∧aO P e=1:=by
 unfold arT at h
 split at h
 ·rename_i m e hm
  split at h
  ·rename_i h1; cases h; exact ⟨e,hm,h1⟩
  ·cases h
 ·cases h
theorem wo {t:TypeId} (h:DF P t=true):P.underlying t=some .string:=by
 unfold DF at h; split at h <;> simp_all
theorem U2 {t:TypeId} (h:boT P t=true):P.underlying t=some .bool:=by
 unfold boT at h; split at h <;> simp_all
theorem DK {t:TypeId} {k:IntKind} (h:DI P t=some k):P.underlying t=some (.int k):=by
 unfold DI at h; split at h <;> simp_all
theorem Jh {t:TypeId} {f off:Nat} {ft:TypeId} (h:dO P t f=some (off,ft)):∃ fs fd,P.underlying t=some (.struct fs)∧fs[f]? = some fd∧fd.offset=off∧fd.type=ft:=by
 unfold dO at h
 split at h
 ·rename_i fs hu
  cases hf:fs[f]? with
  | none=>simp [hf] at h
  | some fd=>simp [hf] at h; exact ⟨fs,fd,hu,hf,h.1,h.2⟩
 ·cases h
theorem xA {t:TypeId} {zs:List Value} (h:bM P t=some zs):∃ z,(zeroValue t).run P w = .ok z w∧z.cells.toList=zs:=by
 unfold bM at h
 cases hi:P.info? t with
 | none=>simp [hi] at h
 | some i=>
  cases hz:i.zero with
  | none=>simp [hi,hz] at h
  | some z=>simp [hi,hz] at h; exact ⟨z,by simp [zeroValue,typeInfo,hi,hz],by simpa using h⟩
end
theorem Yn {P:Program} {w:World} {t:TypeId} {d:PD} (h:Ap P t=some d) {G:Pub}:∃ z,(zeroValue t).run P w = .ok z w∧aN w G z d:=by
 unfold Ap at h
 cases hi:P.info? t with
 | none=>simp [hi] at h
 | some i=>
  cases hz:i.zero with
  | none=>simp [hi,hz] at h
  | some z=>
   refine ⟨z,by simp [zeroValue,typeInfo,hi,hz],?_⟩
   simp only [hi,hz,Option.bind_some] at h
   split at h
   ·rename_i cs e
    cases e
    split at h <;> cases h
    rename_i ho
    refine ⟨cs,rfl,by simp,fun j hj=>?_⟩
    have hj:j<cs.size:=by simpa using hj
    have e1:cs.getD j undef=cs[j]:=by simp [Array.getD,hj]
    have e2:(cs.toList.map PD.raw).getD j (.ak []) = .raw cs[j]:=by simp [hj]
    rw [e1,e2]
    exact .raw _ ((afX.1 ho) _ (by simp))
   ·rename_i v _ e
    cases e
    split at h <;> cases h
    exact .raw _ (by assumption)
   ·cases h
theorem yU {P:Program} {t k e:TypeId} {d:TypeDesc} (h:pF P t=some (k,d,e)):P.underlying t=some (.map k e)∧P.underlying k=some d:=by
 unfold pF at h
 split at h
 ·rename_i k' e' hu
  split at h <;> simp only [ad2,aqL,reduceCtorEq] at h
  ·obtain ⟨rfl,rfl,rfl⟩:=h; rename_i hk; exact ⟨hu,hk⟩
  ·obtain ⟨rfl,rfl,rfl⟩:=h; rename_i hk; exact ⟨hu,hk⟩
 ·cases h
def zi (op:BinOp):Value→Value→Option (Prop × Value)
 | .int k a,.int k' b=>
  match op with
  | .add=>some (k=k',.int k (k.wrap (a+b)))
  | .sub=>some (k=k',.int k (k.wrap (a - b)))
  | .mul=>some (k=k',.int k (k.wrap (a * b)))
  | .quo=>some (k=k'∧b≠0,.int k (k.wrap (a.tdiv b)))
  | .rem=>some (k=k'∧b≠0,.int k (a.tmod b))
  | .eql=>some (k=k',.bool (a == b))
  | .neq=>some (k=k',.bool (a != b))
  | .lss=>some (k=k',.bool (a<b))
  | .leq=>some (k=k',.bool (a≤b))
  | .gtr=>some (k=k',.bool (a > b))
  | .geq=>some (k=k',.bool (a≥b))
  | .shr=>some (0≤b,.int k (a.fdiv (2 ^ (min b.toNat k.bits))))
  | _=>none
 | .string a,.string b=>
  match op with
  | .add=>some (((a.size+b.size:Nat):Int)≤IntKind.i64.max,.string (a++b))
  | .eql=>some (True,.bool (a.toList == b.toList))
  | .neq=>some (True,.bool !(a.toList == b.toList))
  | .lss=>some (True,.bool (Op.bytesLess a.toList b.toList))
  | .gtr=>some (True,.bool !(Op.bytesLess a.toList b.toList || a.toList == b.toList))
  | _=>none
 | _,_=>none
theorem Yo {P:Program} {w:World} {op:BinOp} {x y u:Value} {vc:Prop} (h:zi op x y=some (vc,u)) (hv:vc) (t:TypeId) (ox oy:Operand):
  (eqGuard op t ox oy x y >>= fun _=>binOp op t x y).run P w = .ok u w∧u.oneCell'=true:=by
 unfold zi at h
 split at h
 ·rename_i k a k' b
  have hg:∀ op,(eqGuard op t ox oy (.int k a) (.int k' b)).run P w = .ok () w:=fun op=>by
   unfold eqGuard; cases op <;> rfl
  rw [Sem.run_bind,hg]
  cases op <;> simp only [ad2,aqL,reduceCtorEq] at h
  all_goals first
   | (obtain ⟨rfl,rfl⟩:=h; subst hv; exact ⟨by simp [binOp,Op.intArith,Op.intCmp],rfl⟩)
   | (obtain ⟨rfl,rfl⟩:=h; obtain ⟨rfl,hb⟩:=hv; exact ⟨by simp [binOp,Op.intDiv,hb],rfl⟩)
   | (obtain ⟨rfl,rfl⟩:=h; have h2:=Int.not_lt.2 hv; refine ⟨?_,rfl⟩; simp only [Result.andThen_ok,binOp,Op.shift]; rw [adt h2]; rfl)
 ·rename_i a b
  have hg:∀ op,(eqGuard op t ox oy (.string a) (.string b)).run P w = .ok () w:=fun op=>by
   unfold eqGuard; cases op <;> rfl
  rw [Sem.run_bind,hg]
  cases op <;> simp only [ad2,aqL,reduceCtorEq] at h
  all_goals first
   | (obtain ⟨rfl,rfl⟩:=h; refine ⟨?_,rfl⟩; have h2:=Int.not_lt.2 hv; simp only [Result.andThen_ok,binOp,Op.stringOp]; rw [adt h2]; rfl)
   | (obtain ⟨rfl,rfl⟩:=h; refine ⟨?_,rfl⟩; simp [binOp,Op.stringOp]; done)
 ·cases h
def DL (op:UnOp):Value→Option Value
 | .bool b=>match op with | .not=>some (.bool !b) | _=>none
 | .int k n=>match op with | .neg=>some (.int k (k.wrap (0 - n))) | _=>none
 | _=>none
theorem aa2 {P:Program} {w:World} {op:UnOp} {x u:Value} (h:DL op x=some u):(Op.unary op x).run P w = .ok u w∧u.oneCell'=true:=by
 unfold DL at h
 split at h <;> first | cases h | (cases op <;> simp only [ad2,reduceCtorEq] at h <;> subst h <;> exact ⟨by simp [Op.unary,Op.intArith],rfl⟩)
def U3:Value→Value→Option Bool
 | .int k a,.int k' b=>if k=k' then some (a == b) else none
 | .string a,.string b=>some (a == b)
 | .bool a,.bool b=>some (a == b)
 | _,_=>none
def uM:PD→Nat
 | .raw (.int _ _)=>0
 | .raw (.string _)=>1
 | .raw (.bool _)=>2
 | _=>3
def zk:List PD→List PD→Option Bool
 | [],[]=>some true
 | .raw a::l,.raw b::m=>match U3 a b,zk l m with
  | some x,some y=>some (x&&y)
  | _,_=>none
 | _,_=>none
def xX:List SV→Option (List PD)
 | []=>some []
 | .pd d::l=>(xX l).map (d :: ·)
 | _=>none
def caps:List SV→Option (List Nat)
 | []=>some []
 | .aG t 0::l=>(caps l).map (t :: ·)
 | _=>none
def refs:List SV→Option (List PD)
 | []=>some []
 | .ref d 0::l=>(refs l).map (d :: ·)
 | _=>none
def idx:SV→Option (IntKind × Int)
 | .pd (.raw (.int k i))=>some (k,i)
 | _=>none
def kU (P:Program) (var:Nat→Option (List SV)) (row:Nat→Option Row) (t:TypeId):SV→Option (Prop × SV)
 | .ref d off=>
  if dP P t then
   if off=0∧aO P t=d.width then some (aW P t=true∧d.iI=true∧aO P t≠0,.pd d)
   else some (aW P t=true∧off+aO P t≤d.width∧aO P t≠0,.pd (.ak ((d.cells.drop off).take (aO P t))))
  else some (aW P t=true∧off<d.width,.pd (d.cell off))
 | .aG v off=>match var v with
  | some cs=>
   if dP P t then match xX ((cs.drop off).take (aO P t)) with
    | some ds=>some (aW P t=true∧off+aO P t≤cs.length∧aO P t≠0,.pd (.ak ds))
    | none=>none
   else some (aW P t=true∧off<cs.length,cs.getD off .dead)
  | none=>none
 | .iJ id i off=>match row id with
  | some r=>
   if dP P t then
    if off=0∧aO P t=r.sz then some (aW P t=true∧i<r.ds.length∧(r.ds.getD i (.ak [])).iI=true∧aO P t≠0,.pd (r.ds.getD i (.ak [])))
    else some (aW P t=true∧i<r.ds.length∧off+aO P t≤r.sz∧aO P t≠0,.pd (.ak (((r.ds.getD i (.ak [])).cells.drop off).take (aO P t))))
   else some (aW P t=true∧i<r.ds.length∧off<r.sz,.pd ((r.ds.getD i (.ak [])).cell off))
  | none=>none
 | _=>none
def qp (P:Program) (row:Nat→Option Row) (t:TypeId) (x:SV) (ki:IntKind × Int):Option (Prop × SV):=
 match fA P t with
 | none=>match arT P t with
  | none=>none
  | some n=>match x with
   | .ref d o=>some (0≤ki.2∧ki.2<n,.ref d (o+ki.2.toNat))
   | .aG v o=>some (0≤ki.2∧ki.2<n,.aG v (o+ki.2.toNat))
   | _=>none
 | some e=>match x with
  | .pd (.list sz ds)=>some (aO P e=sz∧sz≠0∧0≤ki.2∧ki.2<ds.length,.ref (ds.getD ki.2.toNat (.ak [])) 0)
  | .own id=>match row id with
   | some r=>some (aO P e=r.sz∧r.sz≠0∧0≤ki.2∧ki.2<r.ds.length,.iJ id ki.2.toNat 0)
   | none=>none
  | .view id k=>match row id with
   | some r=>some (aO P e=r.sz∧r.sz≠0∧0≤ki.2∧k+ki.2<r.ds.length,.iJ id (k+ki.2.toNat) 0)
   | none=>none
  | _=>none
def wu (P:Program) (t:TypeId) (f:Nat):SV→Option (Prop × SV)
 | .pd d=>match dO P t f with
  | some (off,ft)=>
   if dP P ft then some (aW P ft=true∧d.iI=true∧off+aO P ft≤d.width∧aO P ft≠0,.pd (.ak ((d.cells.drop off).take (aO P ft))))
   else some (aW P ft=true∧d.iI=true∧off<d.width,.pd (d.cell off))
  | none=>none
 | _=>none
def ny (P:Program) (row:Nat→Option Row) (t:TypeId) (f:Nat) (x:SV):Option (Prop × SV):=
 match dO P t f with
 | some (off,ft)=>match x with
  | .ref d o=>some (aO P ft≠0,.ref d (o+off))
  | .aG v o=>some (aO P ft≠0,.aG v (o+off))
  | .iJ id i o=>if (row id).isSome then some (aO P ft≠0,.iJ id i (o+off)) else none
  | _=>none
 | none=>none
def Aq (P:Program) (row:Nat→Option Row) (t:TypeId):SV→Option (Prop × SV)
 | .pd (.list _ ds)=>some ((fA P t).isSome=true,.pd (.raw (.int .i64 ds.length)))
 | .pd (.raw (.slice _ n _))=>some ((fA P t).isSome=true,.pd (.raw (.int .i64 n)))
 | .pd (.raw (.string s))=>some (DF P t=true,.pd (.raw (.int .i64 s.size)))
 | .own id=>match row id with
  | some r=>some ((fA P t).isSome=true,.pd (.raw (.int .i64 r.ds.length)))
  | none=>none
 | .view id k=>match row id with
  | some r=>some ((fA P t).isSome=true,.pd (.raw (.int .i64 ((r.ds.length - k:Nat):Int))))
  | none=>none
 | _=>none
def CQ:SV→SV→SV→Option (Prop × SV)
 | .pd (.raw (.bool c)),.pd (.raw (.bool x)),.pd (.raw (.bool y))=>some (True,.pd (.raw (.bool (if c then x else y))))
 | .pd (.raw (.bool c)),.gd c' (.pd (.raw (.bool x))),.pd (.raw (.bool y))=>some (c=true→c'=true,.pd (.raw (.bool (if c then x else y))))
 | .pd (.raw (.bool c)),.pd (.raw (.bool x)),.gd c' (.pd (.raw (.bool y)))=>some (c=false→c'=true,.pd (.raw (.bool (if c then x else y))))
 | .pd (.raw (.bool true)),y,_=>some (True,y)
 | .pd (.raw (.bool false)),_,z=>some (True,z)
 | _,_,_=>none
def bound (d:Int):Option SV→Option Int
 | none=>some d
 | some (.pd (.raw (.int _ i)))=>some i
 | _=>none
def yV (P:Program) (t:TypeId) (x:SV) (lo hi:Option SV):Option (Prop × SV):=
 match x with
 | .pd (.list sz ds)=>match fA P t,bound 0 lo,bound ds.length hi with
  | some e,some l,some h=>some (aO P e=sz∧sz≠0∧0≤l∧l≤h∧h≤ds.length,.pd (.list sz ((ds.take h.toNat).drop l.toNat)))
  | _,_,_=>none
 | .pd (.raw (.string s))=>match bound 0 lo,bound s.size hi with
  | some l,some h=>some (DF P t=true∧0≤l∧l≤h∧h≤s.size,.pd (.raw (.string (s.extract l.toNat h.toNat))))
  | _,_=>none
 | _=>none
def Ar (row:Nat→Option Row):SV→Option (Prop × SV)
 | .ref d o=>some (True,.ref d o)
 | .aG v o=>some (True,.aG v o)
 | .iJ i k o=>if (row i).isSome then some (True,.iJ i k o) else none
 | .fn F=>some (True,.fn F)
 | .clo f c=>some (True,.clo f c)
 | .pd (.raw (.func (.func f) a b))=>some (True,.pd (.raw (.func (.func f) a b)))
 | .pd (.clo f ds)=>some (True,.pd (.clo f ds))
 | _=>none
def Hz (P:Program) (op:BinOp) (t:TypeId):SV→SV→Option (Prop × SV)
 | .pd (.raw (.bool a)),.pd (.raw (.bool b))=>match op with
  | .eql=>some (boT P t=true,.pd (.raw (.bool (a == b))))
  | .neq=>some (boT P t=true,.pd (.raw (.bool (a != b))))
  | _=>none
 | .pd (.raw u),.pd (.raw v)=>(zi op u v).map fun p=>(p.1,.pd (.raw p.2))
 | .pd (.ak xs),.pd (.ak ys)=>match op,zk xs ys with
  | .eql,some b=>some (Yk P t=some (xs.map uM),.pd (.raw (.bool b)))
  | .neq,some b=>some (Yk P t=some (xs.map uM),.pd (.raw (.bool !b)))
  | _,_=>none
 | _,_=>none
def qw (ρ:Operand→SV):List (Nat × Operand)→Option (List (Nat × PD))
 | []=>some []
 | (i,x)::l=>match ρ x,qw ρ l with
  | .pd d,some r=>some ((i,d)::r)
  | _,_=>none
def Au (P:Program) (t:TypeId) (zs:List PD):List (Nat × PD)→Option (Prop × List PD)
 | []=>some (True,zs)
 | (i,d)::l=>match dO P t i with
  | some (off,ft)=>match Au P t (zs.take off++d.cells++zs.drop (off+d.width)) l with
   | some (p,r)=>some (aO P ft≠0∧aO P ft=d.width∧off+d.width≤zs.length∧p,r)
   | none=>none
  | none=>none
def zn (P:Program) (ρ:Operand→SV) (row:Nat→Option Row) (f:Callee) (xs:List Operand) (ts:List TypeId):Option (Prop × SV):=
 match f with
 | .builtin b=>match b with
  | .len=>match xs,ts with
   | [x],[t]=>Aq P row t (ρ x)
   | _,_=>none
  | .min=>match xs with
   | [x,y]=>match ρ x,ρ y with
    | .pd (.raw (.int k a)),.pd (.raw (.int _ b))=>some (True,.pd (.raw (.int k (if b<a then b else a))))
    | _,_=>none
   | _=>none
  | .max=>match xs with
   | [x,y]=>match ρ x,ρ y with
    | .pd (.raw (.int k a)),.pd (.raw (.int _ b))=>some (True,.pd (.raw (.int k (if b > a then b else a))))
    | _,_=>none
   | _=>none
  | _=>none
 | _=>none
def ay (P:Program) (ρ:Operand→SV) (var:Nat→Option (List SV)) (row:Nat→Option Row):Op→Option (Prop × SV)
 | .move x=>some (True,ρ x)
 | .assign x=>some (True,ρ x)
 | .pick c a b=>CQ (ρ c) (ρ a) (ρ b)
 | .load t x=>kU P var row t (ρ x)
 | .nilCheck x=>Ar row (ρ x)
 | .binOp op t x y _=>Hz P op t (ρ x) (ρ y)
 | .unOp op _ x=>match ρ x with
  | .pd (.raw u)=>(DL op u).map fun p=>(True,.pd (.raw p))
  | _=>none
 | .convert src dst x=>match ρ x,DI P dst with
  | .pd (.raw (.int _ n)),some k=>some (aW P src=true,.pd (.raw (.int k (k.wrap n))))
  | _,_=>none
 | .makeFunc (.func f) first cs=>if first.isEmpty then match caps (cs.toList.map ρ) with
   | some ts=>some (True,.clo f ts)
   | none=>(refs (cs.toList.map ρ)).map fun ds=>(True,.pd (.clo f ds))
  else none
 | .slice t x lo hi none=>yV P t (ρ x) (lo.map ρ) (hi.map ρ)
 | .fieldAddr t x f=>ny P row t f (ρ x)
 | .field t x f=>wu P t f (ρ x)
 | .indexAddr t x i=>(idx (ρ i)).bind fun ki=>qp P row t (ρ x) ki
 | .index t x i=>match ρ x,idx (ρ i) with
  | .pd (.raw (.string s)),some (_,i)=>some (DF P t=true∧0≤i∧i<s.size,.pd (.raw (.int .u8 ((s.data.toList.getD i.toNat 0).toNat:Int))))
  | _,_=>none
 | .extract x i=>match ρ x with
  | .tpl ds=>some (i<ds.length,.pd (ds.getD i (.ak [])))
  | _=>none
 | .call c=>zn P ρ row c.callee c.args.toList c.argTypes.toList
 | .build t parts=>match qw ρ parts.toList,bM P t with
  | some ps,some zs=>match Au P t (zs.map .raw) ps with
   | some (p,r)=>some (p∧zs.all Value.oneCell'=true∧lU P t=true,.pd (.ak r))
   | none=>none
  | _,_=>none
 | .makeInterface t x=>match ρ x with
  | .pd (.raw u)=>some (ifT P t=false,.pd (.raw (.iface t u)))
  | _=>none
 | _=>none
section
variable {C:Cx} {s:St} {a:Act} {w:World} {E:Env} {P:Program}
theorem DN {G:Pub} {b o n:Nat} {ds:List PD} (hl:ds.length=n) (h:∀ j,j<n→∃ v,w.cell? ⟨b,o+j,none⟩=some v∧Rd w G v (ds.getD j (.ak []))):
  ∃ cs:Array Value,(loadCells ⟨b,o,none⟩ n).run P w = .ok cs w∧aN w G (.agg cs) (.ak ds):=by
 let l:List Value:=(List.range n).map fun j=>(w.cell? ⟨b,o+j,none⟩).getD undef
 have hll:l.length=n:=by simp [l]
 have hg:∀ j,j<n→∃ v,l[j]? = some v∧w.cell? ⟨b,o+j,none⟩=some v∧Rd w G v (ds.getD j (.ak [])):=by
  intro j hj
  obtain ⟨v,hc,hr⟩:=h j hj
  exact ⟨v,by simp [l,hj,hc],hc,hr⟩
 have hrun:=run_loadCells_list (P:=P) w ⟨b,o,none⟩ l (fun j v hv=>by
  have hj:j<n:=by rw [← hll]; exact (apD.1 hv).1
  obtain ⟨v',h1,h2,_⟩:=hg j hj
  rw [h1] at hv; cases hv
  rw [addr_add]; exact h2)
 rw [hll] at hrun
 refine ⟨l.toArray,hrun,l.toArray,rfl,by simp [hll,hl],fun j hj=>?_⟩
 obtain ⟨v,h1,_,h3⟩:=hg j (by omega)
 have:l.toArray.getD j undef=v:=by
  have hj2:j<l.length:=by omega
  rw [af4 hj2] at h1
  simp only [ad2] at h1
  simp [hj2,h1]
 rw [this]; exact h3
theorem uN {t:TypeId} {ad:Addr} {n:Nat} {cs:Array Value} (hk:aW P t=true) (ha:dP P t=true) (hz:aO P t≠0) (hn:aO P t=n) (h:(loadCells ad n).run P w = .ok cs w):
  (loadVar t ad).run P w = .ok (.agg cs) w:=by
 subst hn
 simp [loadVar,zh hk,ha,jE hz,h]
theorem uO {t:TypeId} {ad:Addr} {v:Value} (hk:aW P t=true) (ha:dP P t=false) (h:w.cell? ad=some v):(loadVar t ad).run P w = .ok v w:=by
 simp [loadVar,zh hk,ha,h]
theorem CS {α:Type} (l:List α) (off n j:Nat) (d:α) (h:j<n):((l.drop off).take n).getD j d=l.getD (off+j) d:=by
 simp [aax,h]
theorem IB:∀ {l:List SV} {ds:List PD},xX l=some ds→ds.length=l.length
 | [],ds,h=>by simp only [xX,ad2] at h; subst h; rfl
 | x::l,ds,h=>by
  cases x <;> simp only [xX,reduceCtorEq] at h
  cases h':xX l with
  | none=>simp [h'] at h
  | some r=>simp [h'] at h; subst h; simp [IB h']
theorem Qp:∀ {l:List SV} {ds:List PD},xX l=some ds→∀ j,j<l.length→l.getD j .dead = .pd (ds.getD j (.ak []))
 | [],_,_,j,hj=>by simp at hj
 | x::l,ds,h,j,hj=>by
  cases x <;> simp only [xX,reduceCtorEq] at h
  cases h':xX l with
  | none=>simp [h'] at h
  | some r=>
   simp [h'] at h; subst h
   cases j with
   | zero=>rfl
   | succ j=>simpa using Qp h' j (by simpa using hj)
theorem aF.DR (g:aF C s a w E) {t:Nat} {cs:List SV} (hv:s.var t=some cs) {j:Nat} (hj:j<cs.length):
  ∃ v,w.cell? ⟨E.vb t,j,none⟩=some v∧v.oneCell'=true∧Rel C.P w E s.row v (cs.getD j .dead):=by
 obtain ⟨cur,e,⟨_,_,hb⟩,hs,hr⟩:=g.vars t cs hv
 have h:=hr j hj
 refine ⟨cur.getD j undef,?_,h⟩
 rw [cell_of_row w _ j cur e _ hb]
 simp [hs,hj]
theorem aF.zo (g:aF C s a w E) {i:Nat} {r:Row} (hr:s.row i=some r) {b cap:Nat} (hb:E.rb i=some (b,cap)) {k j:Nat} (hk:k<r.ds.length) (hj:j<r.sz):
  ∃ v,w.cell? ⟨b,k * r.sz+j,none⟩=some v∧Rd w E.G v ((r.ds.getD k (.ak [])).cell j):=by
 rcases g.rows i r hr with ⟨h,_⟩ | ⟨b',cap',cur,h1,⟨_,_,hh⟩,h2,h3,_,_,h6⟩
 ·rw [h] at hb; cases hb
 ·rw [h1] at hb; cases hb
  refine ⟨cur.getD (k * r.sz+j) undef,?_,h6 k j hk hj⟩
  rw [cell_of_row w _ _ cur r.e _ hh]
  have h5:k * r.sz+r.sz≤r.ds.length * r.sz:=by rw [← aqw]; exact agn _ hk
  have h7:r.ds.length * r.sz≤cap * r.sz:=agn _ h3
  have:k * r.sz+j<cur.size:=by omega
  simp [this]
theorem aF.oH (g:aF C s a w E) {i:Nat} {r:Row} (hr:s.row i=some r) {k:Nat} (hk:k<r.ds.length):(r.ds.getD k (.ak [])).width=r.sz:=by
 rcases g.rows i r hr with ⟨_,h⟩ | ⟨b',cap',cur,h1,_,h2,h3,_,h5,h6⟩
 ·rw [h] at hk; simp at hk
 ·exact h5 k hk
theorem uP (d:PD) (off n j:Nat) (h1:j<n) (h2:off+n≤d.width):((d.cells.drop off).take n).getD j (.ak [])=d.cell (off+j):=by
 rw [CS _ _ _ _ _ h1,PD.mD d (off+j) (by omega)]
theorem nN (d:PD) (off n:Nat) (h2:off+n≤d.width):((d.cells.drop off).take n).length=n:=by
 simp [PD.dh]; omega
theorem Fp (g:aF C s a w E) {t:TypeId} {x v:SV} {vc:Prop} {u:Value} (h:kU C.P s.var s.row t x=some (vc,v)) (bg:vc) (hu:Rel C.P w E s.row u x):
  ∃ u',(aqi t u).run C.P w = .ok u' w∧Rel C.P w E s.row u' v:=by
 cases x with
 | ref d off=>
  obtain ⟨b,base,rfl,hr⟩:=hu
  simp only [kU] at h
  have one:aW C.P t=true→dP C.P t=false→off<d.width→∃ u',(aqi t (.pointer (some ⟨b,base+off,none⟩))).run C.P w = .ok u' w∧Rel C.P w E s.row u' (.pd (d.cell off)):=by
   intro hk ha hlt
   obtain ⟨_,v',hc,hr'⟩:=hr off hlt
   exact ⟨v',by simp [aqi,aqg,uO hk ha hc],hr'.CJ⟩
  have many:aW C.P t=true→dP C.P t=true→off+aO C.P t≤d.width→aO C.P t≠0→∃ u',(aqi t (.pointer (some ⟨b,base+off,none⟩))).run C.P w = .ok u' w∧Rel C.P w E s.row u' (.pd (.ak ((d.cells.drop off).take (aO C.P t)))):=by
   intro hk ha hle hz
   obtain ⟨cs,hl,hv⟩:=DN (P:=C.P) (w:=w) (G:=E.G) (b:=b) (o:=base+off) (n:=aO C.P t) (ds:=(d.cells.drop off).take (aO C.P t)) (nN d off _ hle) (fun j hj=>by
    obtain ⟨_,v',hc,hr'⟩:=hr (off+j) (by omega)
    rw [← aqt] at hc
    exact ⟨v',hc,by rw [uP d off _ j hj hle]; exact hr'⟩)
   exact ⟨.agg cs,by simp [aqi,aqg,uN hk ha hz rfl hl],hv⟩
  split at h
  ·rename_i ha
   split at h
   ·rename_i h0
    obtain ⟨rfl,hw⟩:=h0
    cases h
    obtain ⟨hk,ht,hz⟩:=bg
    obtain ⟨u',h1,h2⟩:=many hk ha (by omega) hz
    refine ⟨u',h1,?_⟩
    cases d with
    | ak ds=>
     simp only [PD.cells,PD.width,atl] at h2 hw
     rw [hw,List.take_length] at h2
     exact h2
    | raw _=>simp [PD.iI] at ht
    | list _ _=>simp [PD.iI] at ht
    | clo _ _=>simp [PD.iI] at ht
    | mp _ _=>simp [PD.iI] at ht
   ·cases h; exact many bg.1 ha bg.2.1 bg.2.2
  ·rename_i ha
   cases h; exact one bg.1 (by simpa using ha) bg.2
 | aG v0 off=>
  simp only [Rel] at hu; subst hu
  simp only [kU] at h
  split at h
  ·rename_i cs hv
   split at h
   ·rename_i ha
    split at h
    ·rename_i ds hg
     cases h
     obtain ⟨hk,hle,hz⟩:=bg
     have hlen:=IB hg
     have hget:=Qp hg
     have hl2:((cs.drop off).take (aO C.P t)).length=aO C.P t:=by simp; omega
     obtain ⟨c,hl,hv'⟩:=DN (P:=C.P) (w:=w) (G:=E.G) (b:=E.vb v0) (o:=off) (n:=aO C.P t) (ds:=ds) (by omega) (fun j hj=>by
      obtain ⟨v',hc,h1,hr'⟩:=g.DR hv (j:=off+j) (by omega)
      refine ⟨v',hc,?_⟩
      have:=hget j (by omega)
      rw [CS _ _ _ _ _ hj] at this
      rw [this] at hr'
      simp only [Rel] at hr'
      generalize ds.getD j (.ak [])=d at hr' ⊢
      cases d with
      | raw _=>exact hr'
      | list _ _=>exact hr'
      | clo _ _=>exact hr'
      | mp _ _=>exact hr'
      | ak l=>obtain ⟨x,rfl,_⟩:=hr'; simp [Value.oneCell'] at h1)
     exact ⟨.agg c,by simp [aqi,aqg,uN hk ha hz rfl hl],hv'⟩
    ·cases h
   ·rename_i ha
    cases h
    obtain ⟨v',hc,_,hr'⟩:=g.DR hv bg.2
    exact ⟨v',by simp [aqi,aqg,uO bg.1 (by simpa using ha) hc],hr'⟩
  ·cases h
 | iJ id i off=>
  simp only [kU] at h
  split at h
  ·rename_i r hrow
   obtain ⟨b,cap,hb,rfl⟩:=hu r hrow
   have many:aW C.P t=true→dP C.P t=true→i<r.ds.length→off+aO C.P t≤r.sz→aO C.P t≠0→∃ u',(aqi t (.pointer (some ⟨b,i * r.sz+off,none⟩))).run C.P w = .ok u' w∧Rel C.P w E s.row u' (.pd (.ak (((r.ds.getD i (.ak [])).cells.drop off).take (aO C.P t)))):=by
    intro hk ha hi hle hz
    have hw:=g.oH hrow hi
    obtain ⟨cs,hl,hv⟩:=DN (P:=C.P) (w:=w) (G:=E.G) (b:=b) (o:=i * r.sz+off) (n:=aO C.P t) (ds:=((r.ds.getD i (.ak [])).cells.drop off).take (aO C.P t)) (nN _ off _ (by omega)) (fun j hj=>by
     obtain ⟨v',hc,hr'⟩:=g.zo hrow hb hi (j:=off+j) (by omega)
     rw [← aqt] at hc
     exact ⟨v',hc,by rw [uP _ off _ j hj (by omega)]; exact hr'⟩)
    exact ⟨.agg cs,by simp [aqi,aqg,uN hk ha hz rfl hl],hv⟩
   split at h
   ·rename_i ha
    split at h
    ·rename_i h0
     obtain ⟨rfl,hw⟩:=h0
     cases h
     obtain ⟨hk,hi,ht,hz⟩:=bg
     obtain ⟨u',h1,h2⟩:=many hk ha hi (by omega) hz
     refine ⟨u',h1,?_⟩
     have hwd:=g.oH hrow hi
     generalize r.ds.getD i (.ak [])=d at *
     cases d with
     | ak ds=>
      simp only [PD.cells,PD.width,atl] at h2 hwd
      rw [hw,← hwd,List.take_length] at h2
      exact h2
     | raw _=>simp [PD.iI] at ht
     | list _ _=>simp [PD.iI] at ht
     | clo _ _=>simp [PD.iI] at ht
     | mp _ _=>simp [PD.iI] at ht
    ·cases h; exact many bg.1 ha bg.2.1 bg.2.2.1 bg.2.2.2
   ·rename_i ha
    cases h
    obtain ⟨v',hc,hr'⟩:=g.zo hrow hb bg.2.1 bg.2.2
    exact ⟨v',by simp [aqi,aqg,uO bg.1 (by simpa using ha) hc],hr'.CJ⟩
  ·cases h
 | _=>simp [kU] at h
theorem wV (k:IntKind) (i:Int):(asIntOf (.int k i)).run P w = .ok (k,i) w:=rfl
theorem Yp {x:SV} {k:IntKind} {i:Int} {u:Value} (h:idx x=some (k,i)) {row:Nat→Option Row} (hu:Rel P w E row u x):u = .int k i:=by
 cases x with
 | pd d=>cases d with
  | raw v=>
   have:=aN.aK hu
   subst this
   cases u <;> simp [idx] at h
   obtain ⟨rfl,rfl⟩:=h; rfl
  | _=>simp [idx] at h
 | _=>simp [idx] at h
theorem Rd.mG {G:Pub} {sz:Nat} {ds:List PD} {v:Value} (h:Rd w G v (.list sz ds)):
  (∃ p,v = .slice p 0 0∧ds=[])∨∃ b off cap,v = .slice (some ⟨b,off,none⟩) ds.length cap∧ds.length≤cap∧cap≤maxLen∧(∀ i,i<ds.length→(ds.getD i (.ak [])).width=sz)∧∀ i,i<ds.length→lX w G b (off+i * sz) (ds.getD i (.ak [])):=by
 cases h with
 | nil=>exact .inl ⟨none,rfl,rfl⟩
 | empty _ a=>exact .inl ⟨some a,rfl,rfl⟩
 | list _ _ b off cap vs hcap hmax hw iU hcell hrd=>
  refine .inr ⟨b,off,cap,rfl,hcap,hmax,hw,fun i hi j hj=>?_⟩
  rw [hw i hi] at hj
  exact ⟨iU i j hi hj,vs i j,hcell i j hi hj,hrd i j hi hj⟩
theorem Rd.emp {G:Pub} (sz:Nat) (p:Option Addr):Rd w G (.slice p 0 0) (.list sz []):=by
 cases p with
 | none=>exact .nil sz
 | some a=>exact .empty sz a
theorem Rd.pO {G:Pub} {sz:Nat} {ds:List PD} {b off cap:Nat} (hcap:ds.length≤cap) (hmax:cap≤maxLen) (hw:∀ i,i<ds.length→(ds.getD i (.ak [])).width=sz)
  (h:∀ i,i<ds.length→lX w G b (off+i * sz) (ds.getD i (.ak []))):Rd w G (.slice (some ⟨b,off,none⟩) ds.length cap) (.list sz ds):=by
 have hx:∀ i j,i<ds.length→j<sz→G b (off+i * sz+j)∧∃ v,w.cell? ⟨b,off+i * sz+j,none⟩=some v∧Rd w G v ((ds.getD i (.ak [])).cell j):=fun i j hi hj=>h i hi j (by rw [hw i hi]; exact hj)
 refine .list sz ds b off cap (fun i j=>(w.cell? ⟨b,off+i * sz+j,none⟩).getD undef) hcap hmax hw (fun i j hi hj=>(hx i j hi hj).1) (fun i j hi hj=>?_) (fun i j hi hj=>?_)
 ·obtain ⟨_,v,hc,_⟩:=hx i j hi hj; rw [hc]; rfl
 ·obtain ⟨_,v,hc,hr⟩:=hx i j hi hj; rw [hc]; exact hr
theorem Qq {t:TypeId} {x v:SV} {ki:IntKind × Int} {vc:Prop} {u:Value} {row:Nat→Option Row} (hrb:∀ id r,row id=some r→0<r.ds.length→∃ b cap,E.rb id=some (b,cap))
  (h:qp P row t x ki=some (vc,v)) (bg:vc) (hu:Rel P w E row u x):
  ∃ u',(as4 t u (.int ki.1 ki.2)).run P w = .ok u' w∧Rel P w E row u' v:=by
 obtain ⟨k,i⟩:=ki
 unfold qp at h
 split at h
 ·split at h
  ·cases h
  ·rename_i n hn
   obtain ⟨e,hue,hse⟩:=aeF hn
   have hsz:=jE (P:=P) (w:=w) (t:=e) (by omega)
   rw [hse] at hsz
   have core:∀ (b off:Nat),0≤i→i<(n:Int)→(as4 t (.pointer (some ⟨b,off,none⟩)) (.int k i)).run P w = .ok (.pointer (some ⟨b,off+i.toNat,none⟩)) w:=by
    intro b off h0 hl
    simp [as4,wV,af9 hue,aqg,h0,hl,hsz,addr_add]
   split at h
   ·cases h
    obtain ⟨b,base,rfl,hr⟩:=hu
    exact ⟨_,core b _ bg.1 bg.2,b,base,by rw [aqt],hr⟩
   ·cases h
    have hu:=(show u=_ from hu)
    subst hu
    exact ⟨_,core _ _ bg.1 bg.2,rfl⟩
   ·cases h
 ·rename_i e he
  have fJ:=iE he
  have core:∀ (b off len cap:Nat) (sz:Nat),aO P e=sz→sz≠0→0≤i→i<(len:Int) →
    (as4 t (.slice (some ⟨b,off,none⟩) len cap) (.int k i)).run P w = .ok (.pointer (some ⟨b,off+i.toNat * sz,none⟩)) w:=by
   intro b off len cap sz hs hz h0 hl
   have hsz:=jE (P:=P) (w:=w) (t:=e) (by omega)
   rw [hs] at hsz
   simp [as4,wV,af9 fJ,h0,hl,hsz,addr_add]
  split at h
  ·rename_i sz ds
   cases h
   obtain ⟨hs,hz,h0,hl⟩:=bg
   rcases Rd.mG hu with ⟨p,rfl,rfl⟩ | ⟨b,off,cap,rfl,_,_,hw,hr⟩
   ·simp at hl; omega
   ·have hi:i.toNat<ds.length:=by omega
    exact ⟨_,core b off ds.length cap sz hs hz h0 hl,b,off+i.toNat * sz,by simp,hr _ hi⟩
  ·split at h
   ·rename_i id r hrow
    cases h
    obtain ⟨hs,hz,h0,hl⟩:=bg
    obtain ⟨b,cap,hb⟩:=hrb _ _ hrow (by simp at hl; omega)
    rcases hu r hrow with ⟨h1,rfl⟩ | ⟨b',cap',hb',rfl⟩
    ·rw [h1] at hb; cases hb
    ·refine ⟨_,core b' 0 r.ds.length cap' r.sz hs hz h0 hl,fun r' hr'=>?_⟩
     rw [hrow] at hr'; cases hr'
     exact ⟨b',cap',hb',by simp⟩
   ·cases h
  ·split at h
   ·rename_i id kk _ r hrow
    cases h
    obtain ⟨hs,hz,h0,hl⟩:=bg
    obtain ⟨hkk,b,cap,hb,rfl⟩:=hu r hrow
    refine ⟨_,core b (kk * r.sz) (r.ds.length - kk) (cap - kk) r.sz hs hz h0 (by omega),fun r' hr'=>?_⟩
    rw [hrow] at hr'; cases hr'
    exact ⟨b,cap,hb,by rw [aqd,Nat.add_zero]⟩
   ·cases h
  ·cases h
end
end Go.au
end
