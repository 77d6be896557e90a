/- A part of the proof. -/
import Derived.Test.YtgeljjfmcmbejaaGreatDoorPAbs
import Derived.Deep.LoopGhost
set_option linter.all false
set_option linter.deprecated false
open Go renaming setRow_other→f9,run_underlying→bq
open Go.Instr renaming loadAt→ea,sureAddr→ez,indexAt→k5
set_option maxRecDepth 100000
set_option maxHeartbeats 4000000
namespace Go.au
variable {α:Type}{P:Program}{w' a:World}{G G':Pub}{v u:Value}{d:Bool}{mu:Nat->Prop}{b r n id i j cap sz:Nat}{t e:TypeId}{cur cs:Array Value}{vc:Prop}{ds:List PD}
inductive SV where
 |dead
 |pd (d:PD)
 |ref (d:PD) (off:Nat)
 |aA (t off:Nat)
 |own (id:Nat)
 |dP (id i off:Nat)
 |tpl (ds:List PD)
 |clo (f:FuncId) (caps:List Nat)
 |fn (F:List PD->PD->Prop)
 |box (cs:List Value)
 |gd (c:Bool) (v:SV)
 |gV (t:TypeId) (v:SV)
 |view (id k:Nat)
 |nT (t n:Nat)
variable {x:SV}
structure Row where
 e:TypeId
 sz:Nat
 ds:List PD
def lk{α:Type}(k:Nat):List (Nat×α)->Option α
 | []=>none
 |(j,x)::l=>if j=k then some x else lk k l
def up{α:Type}(k:Nat)(x:α):List (Nat×α)->List (Nat×α)
 | []=>[(k,x)]
 |(j,y)::l=>if j=k then(k,x)::l else(j,y)::up k x l
def jR(k j:Nat)(x:α)(l:List (Nat×α)):lk j (up k x l)=if j=k then some x else lk j l:=by
 induction l with
 |nil=>simp only [up,lk];by_cases h:k=j<;>simp [h,eq_comm]
 |cons p l a=>
  obtain⟨i,y⟩:=p;simp only [up]
  by_cases h:i=k
  ·subst h
   by_cases H:i=j
   ·subst H;simp [lk]
   ·simp [lk,H,bt H]
  ·simp only [h,ba,lk,a]
   by_cases H:i=j
   ·subst H;simp [h]
   ·simp [H]
abbrev jo:=List (Value×PD)
inductive dQ where
 |map (m:jo)
 |it (r:Nat) (left:List Value) (cur:Option Value)
 |gone
 |obj (x:Obj)
structure St where
 n:Nat
 slots:List (Nat×SV)
 vars:List (Nat×List SV)
 rows:List (Nat×Row)
 maps:List (Nat×dQ):=[]
 gs:List (Nat×SV):=[]
def St.get(s:St)(t:Nat):SV:=(lk t s.slots).getD .dead
def St.dR(s:St)(t:Nat):SV:=(lk t s.gs).getD .dead
def St.var(s:St)(t:Nat):Option (List SV):=lk t s.vars
def St.row(s:St)(i:Nat):Option Row:=lk i s.rows
def St.map(s:St)(r:Nat):Option dQ:=lk r s.maps
def St.set(s:St)(t:Nat)(v:SV):St:={s with slots:=up t v s.slots}
def St.put(s:St)(dst:Option Nat)(v:SV):St:=match dst with|some t=>s.set t v|none=>s
def St.setRow(s:St)(i:Nat)(r:Row):St:={s with rows:=up i r s.rows}
def St.fO(s:St)(t j:Nat)(v:SV):(s.set t v).get j=if j=t then v else s.get j:=by
 simp only [St.get,St.set,jR];split<;>rfl
structure Env where
 G:Pub
 vb:Nat->Nat
 rb:Nat->Option (Nat×Nat)
 bx:Nat->Nat
variable {E:Env}
def oU(w:World)(G:Pub)(v:Value):List PD->Prop
 | [d]=>aH w G v d
 |ds=>∃s:Array Value,v= .tuple s/\s.size=ds.length/\∀j,j<ds.length->aH w G (s.getD j undef) (ds.getD j (.ak []))
def DI(w:World)(G:Pub)(rs:List PD)(e:Ending)(w':World):Prop:=
 ∃v,e= .returned v/\oU w' (G.new w.heap.size) v rs/\Below w.heap.size w w'
def Ez(w:World)(G:Pub)(rs:List PD)(e:Ending)(w':World):Prop:=
 ∃v,e= .returned v/\oU w' (G.new w.heap.size) v rs/\Go.RowKit.Below w.heap.size w w'
def aF(P:Program)(f:FuncId):Prop:=∀a w,(callFunc f a).run P w= .ok (.enter f a) w
def qx(P:Program)(w:World)(G:Pub)(v:Value)(F:List PD->PD->Prop):Prop:=
 ∃f first caps,v= .func (.func f) first caps/\aF P f/\
  ∀a b,Keeps w G a b->Good a b->∀d r (vals:Array Value),F d r->vals.size=d.length->
   (∀j,j<d.length->aH a b (vals.getD j undef) (d.getD j (.ak [])))->Calls P f (first++vals++caps) a (DI a b [r])
def qx.keep{w:World}(k:Keeps w G w' G'){F:List PD->PD->Prop}(h:qx P w G v F):qx P w' G' v F:=by
 obtain⟨f,first,caps,H,e,d⟩:=h;exact⟨f,first,caps,H,e,λa b K=>d a b (k.trans K)⟩
def Rel(P:Program)(w:World)(E:Env)(row:Nat->Option Row)(v:Value):SV->Prop
 | .dead=>True
 | .pd d=>aH w E.G v d
 | .ref d off=>∃b e,v= .pointer (some ⟨b,e+off,none⟩)/\lD w E.G b e d
 | .aA t off=>v= .pointer (some ⟨E.vb t,off,none⟩)
 | .own id=>∀r,row id=some r->(E.rb id=none/\v= .slice none 0 0)\/∃b C,E.rb id=some (b,C)/\v= .slice (some ⟨b,0,none⟩) r.ds.length C
 | .dP id i off=>∀r,row id=some r->∃b C,E.rb id=some (b,C)/\v= .pointer (some ⟨b,i*r.sz+off,none⟩)
 | .tpl D=>∃s:Array Value,v= .tuple s/\s.size=D.length/\∀j,j<D.length->aH w E.G (s.getD j undef) (D.getD j (.ak []))
 | .clo f caps=>v= .func (.func f) #[] (caps.map λt=>.pointer (some ⟨E.vb t,0,none⟩)).toArray
 | .fn F=>qx P w E.G v F
 | .box _=>True
 | .gd c x=>c=true->Rel P w E row v x
 | .gV t x=>∃u,v= .iface t u/\Rel P w E row u x
 | .nT t n=>∃C,n<=C/\C<=maxLen/\v= .slice (some ⟨E.vb t,0,none⟩) n C
 | .view id k=>∀r,row id=some r->k<=r.ds.length/\∃b C,E.rb id=some (b,C)/\v= .slice (some ⟨b,k*r.sz,none⟩) (r.ds.length-k) (C-k)
def Rel.keep{w:World}{E':Env}{row:Nat->Option Row}(k:Keeps w E.G w' E'.G)(H:E'.vb=E.vb)(r:E'.rb=E.rb)
  (h:Rel P w E row v x):Rel P w' E' row v x:=by
 induction x generalizing v with
 |dead=>trivial
 |pd d=>exact aH.keep k h
 |ref d off=>obtain⟨b,a,e,h⟩:=h;exact⟨b,a,e,h.keep k⟩
 |aA t off=>simpa only [Rel,H]using h
 |own id=>simpa only [Rel,r]using h
 |dP id i off=>simpa only [Rel,r]using h
 |view id k=>simpa only [Rel,r]using h
 |nT t n=>simpa only [Rel,H]using h
 |tpl D=>obtain⟨s,e,l,h⟩:=h;exact⟨s,e,l,λj m=>(h j m).keep k⟩
 |clo f caps=>simpa only [Rel,H]using h
 |fn F=>exact qx.keep k h
 |box _=>trivial
 |gd c x g=>exactλo=>g (h o)
 |gV t x g=>obtain⟨u,e,h⟩:=h;exact⟨u,e,g h⟩
structure Kept(d:Bool)(mu:Nat->Prop)(w w':World):Prop where
 os:w'.os=w.os
 tape:w'.tape=w.tape
 output:w'.output=w.output
 size:w.heap.size<=w'.heap.size
 block:∀k,k<w.heap.size->¬mu k->w'.heap[k]? =w.heap[k]?
 drawn:d=true->w.drawn<=w'.drawn
def Kept.refl(d:Bool)(mu:Nat->Prop)(w:World):Kept d mu w w:=⟨rfl,rfl,rfl,a3 _,λ_ _ _=>rfl,λ_=>a3 _⟩
def Kept.trans{b c:World}(h:Kept d mu a b)(k:Kept d mu b c):Kept d mu a c:=
 ⟨k.os.trans h.os,k.tape.trans h.tape,k.output.trans h.output,bz h.size k.size,λi f H=>(k.block i (cj f h.size) H).trans (h.block i f H),λe=>bz (h.drawn e) (k.drawn e)⟩
def Kept.of_below{b:World}(h:Below a.heap.size a b):Kept d mu a b:=⟨h.os,h.tape,h.output,h.size,λk H _=>h.block k H,λ_=>h.drawn⟩
def Kept.GY{b:World}(h:Go.RowKit.Below a.heap.size a b)(e:d=true->a.drawn<=b.drawn):Kept d mu a b:=⟨h.os,h.tape,h.output,h.size,λk H _=>h.block k H,e⟩
def Kept.below{b:World}(h:Kept true (λ_=>False) a b):Below a.heap.size a b:=⟨⟨h.os,h.tape,h.output,h.size,λk H=>h.block k H (λf=>f)⟩,h.drawn rfl⟩
def Kept.Ah{b:World}(h:Kept d (λ_=>False) a b):Go.RowKit.Below a.heap.size a b:=⟨h.os,h.tape,h.output,h.size,λk H=>h.block k H (λf=>f)⟩
def Kept.mono{mu':Nat->Prop}{b:World}(h:Kept d mu a b)(hm:∀k,mu k->mu' k):Kept d mu' a b:=⟨h.os,h.tape,h.output,h.size,λk e H=>h.block k e (λh=>H (hm k h)),h.drawn⟩
structure Cx where
 P:Program
 w0:World
 G0:Pub
 post:Exit->Act->World->Prop
 mu:Nat->Prop:=λ_=>False
 df:List Deferred:=[]
 vb0:Nat->Option Nat:=λ_=>none
 fP:Nat->Option (Option (Nat×Nat)):=λ_=>none
 ghost:Nat->Value:=λ_=>undef
 dr:Bool:=true
 old:Nat->Option Nat:=λ_=>none
def Mine(C:Cx)(G:Pub)(w:World)(b:Nat)(cur:Array Value)(e:TypeId):Prop:=
 (C.w0.heap.size<=b\/C.mu b)/\(∀o,¬G b o)/\w.heap[b]? =some (.cells cur e (0,0))
def MapAt(w:World)(G:Pub)(r:Nat)(m:jo):Prop:=
 (∀o,¬G r o)/\∃(e:Array MapEntry) (C:Nat),w.heap[r]? =some (.map e C)/\e.size=m.length/\
  (∀i,i<m.length->(e.getD i default).key=(m.getD i (undef,.ak [])).1/\aH w G (e.getD i default).val (m.getD i (undef,.ak [])).2)/\
  (∀i j,i<j->j<e.size->(e.getD i default).born<(e.getD j default).born)/\(∀i,i<e.size->(e.getD i default).born<C)/\(m.map (·.1)).Nodup
def ar1(w:World)(b r:Nat)(left:List Value)(cur:Option Value):Prop:=
 ∃(s l C:Nat) (seen:Array Nat) (E:Array MapEntry),w.heap[b]? =some (.mapIter (some r) s seen l)/\w.heap[r]? =some (.map E C)/\s=C/\l=C/\
  ((E.toList.map λe=>(e.key,e.born)).filter λp=>!seen.contains p.2).map (·.1)=left/\(∀k,cur=some k->∃p∈(E.toList.map λe=>(e.key,e.born)),p.1=k/\seen.back? =some p.2)
def gq(C:Cx)(w:World)(G:Pub)(b:Nat):dQ->Prop
 | .map m=>MapAt w G b m
 | .it r left a=>(C.w0.heap.size<=b/\∀o,¬G b o)/\ar1 w b r left a
 | .gone=>b<w.heap.size/\∃x,w.heap[b]? =some x/\∀s e d,x≠.cells s e d
 | .obj x=>(∀o,¬G b o)/\w.heap[b]? =some x/\∀s e d,x≠.cells s e d
def MapAt.keep{w:World}(k:Keeps w G w' G')(n:∀o,¬G' r o)(b:w'.heap[r]? =w.heap[r]?){m:jo}(h:MapAt w G r m):MapAt w' G' r m:=by
 obtain⟨_,E,C,f,e,a,d⟩:=h;exact⟨n,E,C,b.trans f,e,λi H=>⟨(a i H).1,(a i H).2.keep k⟩,d⟩
def MapAt.lt{w:World}{m:jo}(h:MapAt w G r m):r<w.heap.size:=by
 obtain⟨_,e,C,H,_⟩:=h;exact(bm.1 H).1
def gq.lt{C:Cx}{w:World}{o:dQ}(h:gq C w G b o):b<w.heap.size:=by
 cases o with
 |map m=>exact MapAt.lt h
 |it r l c=>obtain⟨_,_,_,_,_,_,H,_⟩:=h;exact(bm.1 H).1
 |gone=>exact h.1
 |obj x=>exact(bm.1 h.2.1).1
def gq.keep{C:Cx}{w:World}(k:Keeps w G w' G')(n:(∀o,¬G b o)->∀o,¬G' b o)(f:∀(i:Nat) (x:Obj),w.heap[i]? =some x->(∀cs e d,x≠.cells cs e d)->w'.heap[i]? =some x){o:dQ}(h:gq C w G b o):gq C w' G' b o:=by
 cases o with
 |map m=>
  refine MapAt.keep k (n h.1) ?_ h;obtain⟨_,E,a,H,_⟩:=h;rw [H];exact f _ _ H x6
 |it r l c=>
  obtain⟨j,s,L,a,seen,E,H,g,p⟩:=h;exact⟨⟨j.1,n j.2⟩,s,L,a,seen,E,f _ _ H x6,f _ _ g x6,p⟩
 |gone=>
  obtain⟨_,x,H,g⟩:=h;exact⟨(bm.1 (f _ _ H g)).1,x,f _ _ H g,g⟩
 |obj x=>exact⟨n h.1,f _ _ h.2.1 h.2.2,h.2.2⟩
def VSz(t n m:Nat):Prop:=n<=m/\(t % 10000<9000->m=n)
def VSz.eq{t m:Nat}(h:m=n):VSz t n m:=⟨Nat.le_of_eq h.symm,λ_=>h⟩
structure aB(C:Cx)(s:St)(a:Act)(w:World)(E:Env):Prop where
 kept:Kept C.dr C.mu C.w0 w
 defers:a.defers=C.df
 size:a.tmps.size=s.n
 g0:∀b o,C.G0 b o->E.G b o
 g1:∀b o,E.G b o->C.G0 b o\/C.w0.heap.size<=b
 gw:∀b o,E.G b o->b<w.heap.size
 tab:Tab w E.G
 slots:∀t,Rel C.P w E s.row (a.tmps.getD t undef) (s.get t)
 aV:∀t,Rel C.P w E s.row (C.ghost t) (s.dR t)
 vars:∀t cs,s.var t=some cs->∃cur e,Mine C E.G w (E.vb t) cur e/\VSz t cs.length cur.size/\∀j,j<cs.length->(cur.getD j undef).oneCell'=true/\Rel C.P w E s.row (cur.getD j undef) (cs.getD j .dead)
 rows:∀i r,s.row i=some r->(E.rb i=none/\r.ds=[])\/∃b cap cur,E.rb i=some (b,cap)/\Mine C E.G w b cur r.e/\cur.size=cap*r.sz/\r.ds.length<=cap/\cap<=maxLen/\
   (∀k,k<r.ds.length->(r.ds.getD k (.ak [])).width=r.sz)/\
   (∀k j,k<r.ds.length->j<r.sz->Rd w E.G (cur.getD (k*r.sz+j) undef) ((r.ds.getD k (.ak [])).cell j))
 maps:∀r m,s.map r=some m->gq C w E.G r m
 boxes:∀t cs,s.get t= .box cs->a.tmps.getD t undef= .pointer (some ⟨E.bx t,0,none⟩)/\(∃e,Mine C E.G w (E.bx t) cs.toArray e)/\∀v∈cs,v.oneCell'=true
 vv:∀t t' cs cs',s.var t=some cs->s.var t'=some cs'->E.vb t=E.vb t'->t=t'
 rr:∀i i' r r' p,s.row i=some r->s.row i'=some r'->E.rb i=some p->∀p',E.rb i'=some p'->p.1=p'.1->i=i'
 vr:∀t cs i r p,s.var t=some cs->s.row i=some r->E.rb i=some p->E.vb t≠p.1
 bb:∀t t' cs cs',s.get t= .box cs->s.get t'= .box cs'->E.bx t=E.bx t'->t=t'
 bv:∀t t' cs cs',s.get t= .box cs->s.var t'=some cs'->E.bx t≠E.vb t'
 br:∀t cs i r p,s.get t= .box cs->s.row i=some r->E.rb i=some p->E.bx t≠p.1
 aZ:∀t b,C.vb0 t=some b->E.vb t=b
 bM:∀i p,C.fP i=some p->E.rb i=p
 bI:∀i r p,s.row i=some r->E.rb i=some p->C.fP i=none->C.w0.heap.size<=p.1\/C.old i=some p.1
def Nb{P:Prop}{o:Option Nat}(h:P\/o=some b)(e:o=none):P:=h.resolve_right (by rw [e];exact nofun)
def aB.good{C:Cx}{s:St}{a:Act}{w:World}(g:aB C s a w E):Good w E.G:=⟨g.gw,g.tab⟩
inductive KI where
 |code (c:Code)
 |ops (all:Array Oper) (l:List Oper)
 |inBlock (id:Nat)
 |aU (J:St->Prop)
def fin(C:Cx):List KI->Exit->Act->World->Prop
 | [],e,a,w=>C.post e a w
 | .code c::k,.normal,a,w=>c.wp C.P (fin C k) a w
 | .ops A l::k,.normal,a,w=>wpList C.P A (fin C k) l a w
 | .inBlock _::k,.normal,a,w=>fin C k .normal a w
 | .aU J::_,.normal,a,w=>∃s E,J s/\aB C s a w E
 | .inBlock id::k,.exit i,a,w=>if i=id then fin C k .normal a w else fin C k (.exit i) a w
 |_::k,e,a,w=>fin C k e a w
def R(C:Cx)(k:List KI)(s:St):Prop:=∀a w E,aB C s a w E->fin C k .normal a w
section
variable {C:Cx}{k:List KI}{s:St}
def Mr(C:Cx)(k:List KI)(y:Code):fin C (.code y::k)=Exit.then (y.wp C.P (fin C k)) (fin C k):=by
 funext e a w;cases e<;>rfl
def Cp(C:Cx)(k:List KI)(id:Nat):fin C (.inBlock id::k)=Exit.inBlock id (fin C k):=by
 funext e a w;cases e<;>rfl
def R.seq{x y:Code}(h:R C (.code x :: .code y::k) s):R C (.code (.seq x y)::k) s:=
 λa w E g=>wp_seq (by have:=h a w E g;simp only [fin]at this;rwa [Mr]at this)
def R.skip(h:R C k s):R C (.code .skip::k) s:=λa w E g=>wp_skip (h a w E g)
def R.block{c:Code}(h:R C (.code c :: .inBlock id::k) s):R C (.code (.block id c)::k) s:=
 λa w E g=>wp_block (by have:=h a w E g;simp only [fin]at this;rwa [Cp]at this)
def R.inBlock(h:R C k s):R C (.inBlock id::k) s:=h
def jS(id:Nat):List KI->Option (List KI)
 | .inBlock i :: k=>if id=i then some k else jS id k
 |_::k=>jS id k
 | []=>none
def qL{C:Cx}{id:Nat}:∀{k K:List KI},jS id k=some K->∀a w,fin C K .normal a w->fin C k (.exit id) a w
 | [],_,h,_,_,_=>by simp [jS]at h
 | .inBlock i :: k,K,h,a,w,H=>by
  simp only [jS]at h;simp only [fin]
  split at h
  ·rename_i e;simp only [bo]at h;subst h;rw [af e];exact H
  ·rename_i e;rw [ae e];exact qL h a w H
 | .code c::k,K,h,a,w,H=>qL (k:=k) ya a w H
 | .ops x y::k,K,h,a,w,H=>qL (k:=k) ya a w H
 | .aU J::k,K,h,a,w,H=>qL (k:=k) ya a w H
def R.exit{K:List KI}(H:jS id k=some K)(h:R C K s):R C (.code (.exit id)::k) s:=
 λa w E g=>wp_exit (qL H a w (h a w E g))
def DJ{C:Cx}(a:Act)(w:World)(h:C.post .ret a w):∀k,fin C k .ret a w
 | []=>h
 | .inBlock _::k=>DJ a w h k
 | .code _::k=>DJ a w h k
 | .ops _ _::k=>DJ a w h k
 | .aU _::k=>DJ a w h k
def R.ret(h:∀a w E,aB C s a w E->C.post .ret a w):R C (.code .ret::k) s:=
 λa w E g=>wp_ret (DJ a w (h a w E g) k)
def R.over(h:∀a w E,aB C s a w E->C.post .normal a w):R C [] s:=h
def jL{C:Cx}{b:List PanicEntry}(a:Act)(w:World)(h:C.post (.panic b) a w):∀k,fin C k (.panic b) a w
 | []=>h
 | .inBlock _::k=>jL a w h k
 | .code _::k=>jL a w h k
 | .ops _ _::k=>jL a w h k
 | .aU _::k=>jL a w h k
def aB.bool{a:Act}{w:World}(g:aB C s a w E){t:Nat}{b:Bool}(h:s.get t= .pd (.raw (.bool b))):a.tmps.getD t undef= .bool b:=by
 have:=g.slots t;rw [h]at this;exact aH.aC this
def R.cond{t:Nat}{x y:Code}{b:Bool}(h:s.get t= .pd (.raw (.bool b)))(d:b=true->R C (.code x::k) s)(H:b=false->R C (.code y::k) s):
  R C (.code (.cond (.tmp t) x y)::k) s:=
 λa w E g=>wp_cond_split (t:=b) (g.bool h) (λe=>d e a w E g) (λe=>H e a w E g)
def R.loop{c:Code}(J:Nat->St->Prop)(b:Nat)(i:J b s)
  (r:∀n s,J n s->R C (.code c :: .aU (λs'=>∃N,N<n/\J N s')::k) s):R C (.code (.loop c)::k) s:=by
 intro a w E g;refine wp_loop_ghost (λn a w=>∃s E,J n s/\aB C s a w E) b ⟨s,E,i,g⟩ ?_;rintro n a w ⟨s,E,f,g⟩;refine wp_mono (r n s f a w E g) ?_;intro e A m h
 cases e with
 |normal=>obtain⟨s',j,⟨N,d,H⟩,G⟩:=h;exact⟨N,d,s',j,H,G⟩
 |exit id=>exact h
 |goto l=>exact h
 |ret=>exact h
 |panic o=>exact h
 |outgrown=>exact h
def R.aU{J:St->Prop}(h:J s):R C (.aU J::k) s:=λ_ _ E g=>⟨s,E,h,g⟩
def R.region{o:Array Oper}(h:R C (.ops o o.toList::k) s):R C (.code (.region id o false)::k) s:=
 λa w E g=>wp_region_list (h a w E g)
def R.nil{all:Array Oper}(h:R C k s):R C (.ops all []::k) s:=h
end
def dh{β:Type}(f:α->β)(k:Nat)(l:List (Nat×α)):lk k (l.map λp=>(p.1,f p.2))=(lk k l).map f:=by
 induction l with
 |nil=>rfl
 |cons p l i=>obtain⟨j,x⟩:=p;simp only [ap,lk];split<;>simp [i]
def SV.kill(t:Nat):SV->SV
 | .aA T off=>if T=t then .dead else .aA T off
 | .nT T n=>if T=t then .dead else .nT T n
 | .clo f caps=>if caps.contains t then .dead else .clo f caps
 | .gd c v=>.gd c (v.kill t)
 | .gV i v=>.gV i (v.kill t)
 |v=>v
def SV.aK(i:Nat):SV->SV
 | .own a=>if a=i then .dead else .own a
 | .dP a k off=>if a=i then .dead else .dP a k off
 | .view a k=>if a=i then .dead else .view a k
 | .gd c v=>.gd c (v.aK i)
 | .gV t v=>.gV t (v.aK i)
 |v=>v
def St.newVar(s:St)(t:Nat)(cs:List SV):St:=
 {s with slots:=up t (.aA t 0) (s.slots.map λp=>(p.1,p.2.kill t)),vars:=up t cs (s.vars.map λp=>(p.1,p.2.map (SV.kill t))),gs:=s.gs.map λp=>(p.1,p.2.kill t)}
def St.setVar(s:St)(t:Nat)(cs:List SV):St:={s with vars:=up t cs s.vars}
def St.newRow(s:St)(i:Nat)(r:Row):St:=
 {s with slots:=s.slots.map λp=>(p.1,p.2.aK i),vars:=s.vars.map λp=>(p.1,p.2.map (SV.aK i)),rows:=up i r s.rows,gs:=s.gs.map λp=>(p.1,p.2.aK i)}
def SV.HK(t:Nat)(v:SV)(cs:List Value)(h:v.kill t= .box cs):v= .box cs:=by
 cases v<;>simp only [SV.kill]at h<;>first|exact h|(split at h<;>cases h)|cases h
def SV.Xk(t:Nat)(v:SV)(cs:List Value)(h:v.aK t= .box cs):v= .box cs:=by
 cases v<;>simp only [SV.aK]at h<;>first|exact h|(split at h<;>cases h)|cases h
section
variable {C:Cx}{s:St}{a:Act}{w w':World}{E:Env}
def dF(a:Act)(t:Nat)(u:Value)(j:Nat)(H:t<a.tmps.size):(a.put (some t) u).tmps.getD j undef=if j=t then u else a.tmps.getD j undef:=by
 simp only [Act.put]
 by_cases h:j=t
 ·subst h;simp [H]
 ·simp [h,bt h]
def aB.put(g:aB C s a w E){t:Nat}(ht:t<s.n){v:SV}(h:Rel C.P w E s.row u v)(k:∀cs,v≠.box cs):aB C (s.set t v) (a.put (some t) u) w E:=by
 have d:t<a.tmps.size:=yl
 have n:∀j cs,(s.set t v).get j= .box cs->j≠t/\s.get j= .box cs:=by
  intro j cs H;rw [St.fO]at H
  split at H
  ·exact(k cs H).elim
  ·exact⟨kf,H⟩
 exact{
  kept:=g.kept
  defers:=g.defers
  size:=(show(a.tmps.setIfInBounds t _).size=s.n by rw [m8];exact g.size)
  g0:=g.g0
  g1:=g.g1
  tab:=g.tab
  gw:=g.gw
  slots:=λj=>by
   rw [dF a t u j d,St.fO]
   split
   ·exact h
   ·exact g.slots j
  aV:=g.aV
  vars:=g.vars
  rows:=g.rows
  maps:=g.maps
  boxes:=λj cs H=>by
   obtain⟨e,H⟩:=n j cs H;rw [dF a t u j d,ae e];exact g.boxes j cs H
  vv:=g.vv
  rr:=g.rr
  vr:=g.vr
  bb:=λj J cs b H f=>g.bb j J cs b (n j cs H).2 (n J b f).2
  bv:=λj T cs b H=>g.bv j T cs b (n j cs H).2
  br:=λj cs i r p H=>g.br j cs i r p (n j cs H).2
  aZ:=g.aZ
  bM:=g.bM
  bI:=g.bI}
def aB.dead(g:aB C s a w E){t:Nat}(h:t<s.n)(u:Value):aB C (s.set t .dead) (a.put (some t) u) w E:=
 g.put h (v:=.dead) trivial qr
def Mine.lt(m:Mine C G w b cur e):b<w.heap.size:=by
 obtain⟨_,_,h⟩:=m;exact(bm.1 h).1
def aB.Jt(g:aB C s a w E)(l:Go.RowKit.Below w.heap.size w w')(v:C.dr=true->w.drawn<=w'.drawn)(G':Pub)(L:∀b o,E.G b o->G' b o)
  (N:∀b o,G' b o->E.G b o\/(w.heap.size<=b/\b<w'.heap.size)):aB C s a w' {E with G:=G'}:=by
 have f:Keeps w E.G w' G':=Keeps.uU g.gw l L;have Z:C.w0.heap.size<=w.heap.size:=g.kept.size
 have M:∀b d e,Mine C E.G w b d e->Mine C G' w' b d e:=by
  intro b d e m;have Q:=m.lt;obtain⟨H,n,z⟩:=m;refine⟨H,λo q=>?_,by rw [l.block b Q];exact z⟩;rcases N b o q with h|h
  ·exact n o h
  ·omega
 exact{
  kept:=g.kept.trans (.GY l v)
  defers:=g.defers
  size:=g.size
  g0:=λb o h=>L b o (g.g0 b o h)
  g1:=λb o h=>by
   rcases N b o h with h|h
   ·exact g.g1 b o h
   ·exact .inr qk
  tab:=g.tab.keep f
  gw:=λb o h=>by
   rcases N b o h with h|h
   ·exact cj (g.gw b o h) l.size
   ·exact h.2
  slots:=λt=>(g.slots t).keep (E':={E with G:=G'}) f rfl rfl
  aV:=λt=>(g.aV t).keep (E':={E with G:=G'}) f rfl rfl
  vars:=λt A h=>by
   obtain⟨d,e,m,O,K⟩:=g.vars t A h;exact⟨d,e,M _ _ _ m,O,λj p=>⟨(K j p).1,(K j p).2.keep (E':={E with G:=G'}) f rfl rfl⟩⟩
  rows:=λi r h=>by
   rcases g.rows i r h with h|⟨b,D,d,H,m,n,z,X,U,T⟩
   ·exact .inl h
   ·exact .inr ⟨b,D,d,H,M _ _ _ m,n,z,X,U,λk j u p=>(T k j u p).keep f⟩
  boxes:=λt A h=>by
   obtain⟨H,⟨e,m⟩,n⟩:=g.boxes t A h;exact⟨H,⟨e,M _ _ _ m⟩,n⟩
  maps:=λr m h=>(g.maps r m h).keep f (λP o q=>by
   rcases N r o q with H|H
   ·exact P o H
   ·have:=(g.maps r m h).lt;omega) (λi x J _=>(l.block i (bm.1 J).1).trans J)
  vv:=g.vv
  rr:=g.rr
  vr:=g.vr
  bb:=g.bb
  bv:=g.bv
  br:=g.br
  aZ:=g.aZ
  bM:=g.bM
  bI:=g.bI}
def aB.grow(g:aB C s a w E)(h:Below w.heap.size w w')(G':Pub)(d:∀b o,E.G b o->G' b o)
  (H:∀b o,G' b o->E.G b o\/(w.heap.size<=b/\b<w'.heap.size)):aB C s a w' {E with G:=G'}:=g.Jt h.toBelow (λ_=>h.drawn) G' d H
def bF(w:World)(o:Obj):Below w.heap.size w (w.alloc o):=(Below.refl _ w).alloc (a3 _) o
def zB(w:World):Below w.heap.size w w.drew:=(Below.refl _ w).drew
def aB.drew(g:aB C s a w E):aB C s a {w with drawn:=w.drawn+1} E:=
 g.grow (w':={w with drawn:=w.drawn+1}) ⟨⟨rfl,rfl,rfl,a3 _,λ_ _=>rfl⟩,Nat.le_succ _⟩ E.G (λ_ _ h=>h) (λ_ _ h=>.inl h)
def aB.tX(g:aB C s a w E){t:Nat}{cs:List Value}(h:s.get t= .box cs):E.bx t<w.heap.size:=by
 obtain⟨_,⟨_,m⟩,_⟩:=g.boxes t cs h;exact m.lt
def aB.nU(g:aB C s a w E){t:Nat}{cs:List SV}(h:s.var t=some cs):E.vb t<w.heap.size:=by
 obtain⟨_,_,m,_⟩:=g.vars t cs h;exact m.lt
def aB.ku(g:aB C s a w E){r:Row}(h:s.row i=some r){p:Nat×Nat}(H:E.rb i=some p):p.1<w.heap.size:=by
 rcases g.rows i r h with⟨d,_⟩|⟨b,f,e,d,m,_⟩
 ·rw [d]at H;cases H
 ·rw [d]at H;cases H;exact m.lt
def aB.box(g:aB C s a w E){t:Nat}(ht:t<s.n)(zs:List Value)(L:∀v∈zs,v.oneCell'=true)(e:TypeId):
  aB C (s.set t (.box zs)) (a.put (some t) (.pointer (some ⟨w.heap.size,0,none⟩))) (w.alloc (.cells zs.toArray e)) {E with bx:=λj=>if j=t then w.heap.size else E.bx j}:=by
 have d:=g.grow (w':=w.alloc (.cells zs.toArray e)) (bF w _) E.G (λ_ _ h=>h) (λ_ _ h=>.inl h);have k:t<a.tmps.size:=yl;have n:∀j b,j≠t->(s.set t (.box zs)).get j= .box b->s.get j= .box b:=λj b z H=>by rwa [St.fO,ae z]at H
 exact{
  kept:=d.kept
  defers:=d.defers
  size:=(show(a.tmps.setIfInBounds t _).size=s.n by rw [m8];exact g.size)
  g0:=d.g0
  g1:=d.g1
  tab:=d.tab
  gw:=d.gw
  slots:=λj=>by
   rw [dF a t _ j k,St.fO]
   split
   ·trivial
   ·exact Rel.keep (E:={E with G:=E.G}) (row:=s.row) (E':={E with bx:=λj=>if j=t then w.heap.size else E.bx j}) (Keeps.refl _ _) rfl rfl (d.slots j)
  aV:=λj=>Rel.keep (E:={E with G:=E.G}) (row:=s.row) (E':={E with bx:=λj=>if j=t then w.heap.size else E.bx j}) (Keeps.refl _ _) rfl rfl (d.aV j)
  vars:=λT b h=>by
   obtain⟨A,O,m,M,q⟩:=d.vars T b h;exact⟨A,O,m,M,λj H=>⟨(q j H).1,Rel.keep (E:={E with G:=E.G}) (row:=s.row) (E':={E with bx:=λj=>if j=t then w.heap.size else E.bx j}) (Keeps.refl _ _) rfl rfl (q j H).2⟩⟩
  rows:=d.rows
  maps:=d.maps
  aZ:=g.aZ
  bM:=g.bM
  bI:=g.bI
  boxes:=λj b H=>by
   by_cases h:j=t
   ·subst h
    rw [St.fO,af rfl]at H
    cases H
    rw [dF a j _ j k,af rfl];refine⟨qr,⟨e,.inl (uu g.kept.size),λo N=>?_,by simp only [af];exact heap_alloc_new w _⟩,L⟩;have:=g.gw _ _ N;simp at this
   ·rw [dF a t _ j k,ae h]
    have:=d.boxes j b (n j b h H);simpa only [ae h]using this
  vv:=g.vv
  rr:=g.rr
  vr:=g.vr
  bb:=λj J b f H u x=>by
   by_cases h:j=t<;>by_cases l:J=t
   ·rw [h,l]
   ·simp only [h,a7,ae l]at x
    have:=g.tX (n J f l u);omega
   ·simp only [l,a7,ae h]at x
    have:=g.tX (n j b h H);omega
   ·simp only [ae h,ae l]at x
    exact g.bb j J b f (n j b h H) (n J f l u) x
  bv:=λj T b f H D=>by
   by_cases h:j=t
   ·simp only [h,a7]
    have:=g.nU D;omega
   ·simp only [ae h]
    exact g.bv j T b f (n j b h H) D
  br:=λj b i r p H q K=>by
   by_cases h:j=t
   ·simp only [h,a7]
    have:=g.ku q K;omega
   ·simp only [ae h]
    exact g.br j b i r p (n j b h H) q K}
def Rel.kill{row:Nat->Option Row}{t:Nat}(h:Rel P w E row v x):
  Rel P w {E with vb:=λj=>if j=t then b else E.vb j} row v (x.kill t):=by
 induction x generalizing v with
 |aA T off=>
  simp only [SV.kill]
  split
  ·trivial
  ·rename_i H;simpa only [Rel,ae H]using h
 |nT T n=>
  simp only [SV.kill]
  split
  ·trivial
  ·rename_i H;simpa only [Rel,ae H]using h
 |clo f caps=>
  simp only [SV.kill]
  split
  ·trivial
  ·rename_i l
   simp only [Rel]at h⊢;rw [h];have H:∀x∈caps,x≠t:=λx g e=>l (by subst e;simpa using g)
   congr 2
   exact c8 λx g=>by simp [H x g]
 |gd c x a=>exactλl=>a (h l)
 |gV i x a=>obtain⟨u,e,h⟩:=h;exact⟨u,e,a h⟩
 |dead=>trivial
 |pd d=>exact h
 |ref d off=>exact h
 |own id=>exact h
 |dP id i off=>exact h
 |view id k=>exact h
 |tpl D=>exact h
 |fn F=>exact h
 |box _=>trivial
def Rel.aK{row b:Nat->Option Row}{g:Nat->Option (Nat×Nat)}(a:∀j,j≠i->b j=row j)(hrb:∀j,j≠i->g j=E.rb j)
  (h:Rel P w E row v x):Rel P w {E with rb:=g} b v (x.aK i):=by
 induction x generalizing v with
 |own id=>
  simp only [SV.aK]
  split
  ·trivial
  ·rename_i H
   intro r l;simpa only [hrb id H]using h r (by rw [<-a id H];exact l)
 |dP id k off=>
  simp only [SV.aK]
  split
  ·trivial
  ·rename_i H
   intro r l;simpa only [hrb id H]using h r (by rw [<-a id H];exact l)
 |view id k=>
  simp only [SV.aK]
  split
  ·trivial
  ·rename_i H
   intro r l;simpa only [hrb id H]using h r (by rw [<-a id H];exact l)
 |gd c x m=>exactλo=>m (h o)
 |gV i x m=>obtain⟨u,e,h⟩:=h;exact⟨u,e,m h⟩
 |dead=>trivial
 |pd d=>exact h
 |ref d off=>exact h
 |aA t off=>exact h
 |nT t n=>exact h
 |clo f caps=>exact h
 |tpl D=>exact h
 |fn F=>exact h
 |box _=>trivial
def St.mQ(s:St)(t:Nat)(cs:List SV)(j:Nat):(s.newVar t cs).get j=if j=t then .aA t 0 else(s.get j).kill t:=by
 simp only [St.get,St.newVar,jR,dh]
 split
 ·rfl
 ·cases lk j s.slots<;>rfl
def St.EC(s:St)(t:Nat)(cs:List SV)(j:Nat):(s.newVar t cs).var j=if j=t then some cs else(s.var j).map (List.map (SV.kill t)):=by
 simp only [St.var,St.newVar,jR,dh]
def St.Xl(s:St)(t:Nat)(cs:List SV)(j:Nat):(s.newVar t cs).dR j=(s.dR j).kill t:=by
 simp only [St.dR,St.newVar,dh];cases lk j s.gs<;>rfl
def St.Xm(s:St)(i:Nat)(r:Row)(j:Nat):(s.newRow i r).dR j=(s.dR j).aK i:=by
 simp only [St.dR,St.newRow,dh];cases lk j s.gs<;>rfl
def St.ED(s:St)(i:Nat)(r:Row)(j:Nat):(s.newRow i r).get j=(s.get j).aK i:=by
 simp only [St.get,St.newRow,dh];cases lk j s.slots<;>rfl
def St.Nc(s:St)(i:Nat)(r:Row)(j:Nat):(s.newRow i r).var j=(s.var j).map (List.map (SV.aK i)):=by
 simp only [St.var,St.newRow,dh]
def St.iY(s:St)(i:Nat)(r:Row)(j:Nat):(s.newRow i r).row j=if j=i then some r else s.row j:=by
 simp only [St.row,St.newRow,jR]
def dB(f:SV->SV)(h:f .dead= .dead)(cs:List SV)(j:Nat):(cs.map f).getD j .dead=f (cs.getD j .dead):=by
 simp only [ag,cU]
 cases cs[j]?<;>simp [h]
def aB.named(g:aB C s a w E){t:Nat}{cs:List SV}(Q:a.tmps.getD t undef= .pointer (some ⟨b,0,none⟩))(m:Mine C E.G w b cur e)(X:cur.size=cs.length)
  (Z:∀j,j<cs.length->(cur.getD j undef).oneCell'=true/\Rel C.P w {E with vb:=λj=>if j=t then b else E.vb j} s.row (cur.getD j undef) (cs.getD j .dead))
  (N:∀T cs',s.var T=some cs'->T≠t->E.vb T≠b)(G:∀i r p,s.row i=some r->E.rb i=some p->b≠p.1)(hb:∀j cs',s.get j= .box cs'->j≠t->E.bx j≠b)(z:C.vb0 t=none):
  aB C (s.newVar t cs) a w {E with vb:=λj=>if j=t then b else E.vb j}:=by
 have d:∀j cs',(s.newVar t cs).var j=some cs'->(j=t/\cs'=cs)\/(j≠t/\∃q,s.var j=some q/\cs'=q.map (SV.kill t)):=by
  intro j cs' h;rw [St.EC]at h
  split at h
  ·cases h;exact .inl ⟨kf,rfl⟩
  ·cases k:s.var j with
   |none=>simp [k]at h
   |some c0=>simp [k]at h;exact .inr ⟨kf,c0,rfl,h.symm⟩
 have x:∀j cs',(s.newVar t cs).get j= .box cs'->j≠t/\s.get j= .box cs':=by
  intro j cs' h;rw [St.mQ]at h
  split at h
  ·cases h
  ·exact⟨kf,SV.HK t _ _ h⟩
 exact{
  kept:=g.kept
  defers:=g.defers
  size:=g.size
  g0:=g.g0
  g1:=g.g1
  tab:=g.tab
  gw:=g.gw
  slots:=λj=>by
   rw [St.mQ]
   split
   ·rename_i h;subst h;simp only [Rel,a7];exact Q
   ·exact(g.slots j).kill
  aV:=λj=>by rw [St.Xl];exact(g.aV j).kill
  vars:=λj cs' h=>by
   rcases d j cs' h with⟨rfl,rfl⟩|⟨H,c0,k,rfl⟩
   ·exact⟨cur,e,uu m,.eq X,Z⟩
   ·obtain⟨U,e0,P,D,K⟩:=g.vars j c0 k
    refine⟨U,e0,by simpa [H]using P,uu D,λi v=>?_⟩;have:=K i (uu v);rw [dB _ rfl];exact⟨this.1,this.2.kill⟩
  rows:=g.rows
  maps:=g.maps
  boxes:=λj cs' h=>g.boxes j cs' (x j cs' h).2
  vv:=λj J c n h M l=>by
   rcases d j c h with⟨rfl,rfl⟩|⟨H,c0,k,rfl⟩<;>rcases d J n M with⟨rfl,rfl⟩|⟨f,u,o,rfl⟩
   ·rfl
   ·simp only [a7,ae f]at l;exact((N J u o f) l.symm).elim
   ·simp only [a7,ae H]at l;exact((N j c0 k H) l).elim
   ·simp only [ae H,ae f]at l;exact g.vv j J c0 u k o l
  rr:=g.rr
  vr:=λj c i r p h v O=>by
   rcases d j c h with⟨rfl,rfl⟩|⟨H,c0,k,rfl⟩
   ·simp only [a7];exact G i r p v O
   ·simp only [ae H];exact g.vr j c0 i r p k v O
  bb:=λj J c n h M=>g.bb j J c n (x j c h).2 (x J n M).2
  bv:=λj T c n h A=>by
   have L:=x j c h;rcases d T n A with⟨rfl,rfl⟩|⟨H,c0,k,rfl⟩
   ·simp only [a7];exact hb j c L.2 L.1
   ·simp only [ae H];exact g.bv j T c c0 L.2 k
  br:=λj c i r p h=>g.br j c i r p (x j c h).2
  aZ:=λT b' h=>by
   have H:T≠t:=λe=>by rw [e,z]at h;cases h
   simp only [ae H];exact g.aZ T b' h
  bM:=g.bM
  bI:=g.bI}
def aB.so(g:aB C s a w E){t:Nat}{zs:List Value}(H:C.vb0 t=none)(h:s.get t= .box zs):
  aB C (s.newVar t (zs.map λv=>.pd (.raw v))) a w {E with vb:=λj=>if j=t then E.bx t else E.vb j}:=by
 obtain⟨J,⟨e,m⟩,z⟩:=g.boxes t zs h;refine g.named J m qr (λj hj=>?_) (λT b k _ f=>g.bv t T zs b h k f.symm) (λi r p n l=>g.br t zs i r p h n l) (λj b hj d f=>d (g.bb j t b zs hj h f)) H;simp only [al]at hj;have q:zs.toArray.getD j undef=zs[j]:=j5;have o:(zs.map λv=>SV.pd (.raw v)).getD j .dead= .pd (.raw zs[j]):=j5;rw [q,o];exact⟨z _ (am hj),.raw _ (z _ (am hj))⟩
def kD(cs:Array Value)(h:∀o,¬G b o):Keeps w G (w.setRow b cs) G:=
 ⟨λ_ _ h=>h,λd o g=>World.cell?_of_block (a:=⟨d,o,none⟩) (f9 w b d cs (λe=>h o (e▸g))),λd o g=>f9 w b d cs (λe=>h o (e▸g))⟩
def tY(g:Kept C.dr C.mu C.w0 w)(cs:Array Value)(h:C.w0.heap.size<=b\/C.mu b):Kept C.dr C.mu C.w0 (w.setRow b cs):=
 ⟨g.os,g.tape,g.output,by simpa [World.setRow]using g.size,λk a H=>(f9 w b k cs (λe=>by
  subst e;rcases h with h|h
  ·omega
  ·exact H h)).trans (g.block k a H),g.drawn⟩
def gq.setRow{m:dQ}(h:gq C w G r m)(a:w.heap[b]? =some (.cells cur e (0,0)))(d:∀o,¬G b o):gq C (w.setRow b cs) G r m:=by
 refine h.keep (kD cs d) (λh=>h) (λi x H n=>(f9 w b i cs (λe=>?_)).trans H);rw [e,a]at H;cases H;exact n _ _ _ rfl
def Mine.other{a:Nat}(m:Mine C G w b cur e)(h:b≠a):Mine C G (w.setRow a cs) b cur e:=by
 obtain⟨f,d,H⟩:=m;exact⟨f,d,by rw [f9 w a b cs h];exact H⟩
def Mine.set(m:Mine C G w b cur e):Mine C G (w.setRow b cs) b cs e:=by
 obtain⟨a,H,h⟩:=m;exact⟨a,H,setRow_heap w b cur cs e _ h⟩
def aB.store(g:aB C s a w E){t:Nat}{cs cs':List SV}(v:s.var t=some cs)(d:Array Value)(Z:VSz t cs'.length d.size)
  (P:∀j,j<cs'.length->(d.getD j undef).oneCell'=true/\Rel C.P w E s.row (d.getD j undef) (cs'.getD j .dead)):
  aB C (s.setVar t cs') a (w.setRow (E.vb t) d) E:=by
 obtain⟨cur,e,m,hs,_⟩:=g.vars t cs v;have q:Keeps w E.G (w.setRow (E.vb t) d) E.G:=kD d m.2.1
 have f:∀j c,(s.setVar t cs').var j=some c->(j=t/\c=cs')\/(j≠t/\s.var j=some c):=by
  intro j c h;simp only [St.var,St.setVar,jR]at h
  split at h
  ·cases h;exact .inl ⟨kf,rfl⟩
  ·exact .inr ⟨kf,h⟩
 have H:∀j c,(s.setVar t cs').var j=some c->∃z,s.var j=some z:=by
  intro j c h;rcases f j c h with⟨rfl,_⟩|⟨_,h⟩
  ·exact⟨cs,v⟩
  ·exact⟨c,h⟩
 exact{
  kept:=tY g.kept d m.1
  maps:=λr Q h=>(g.maps r Q h).setRow m.2.2 m.2.1
  aZ:=g.aZ
  bM:=g.bM
  bI:=g.bI
  defers:=g.defers
  size:=g.size
  g0:=g.g0
  g1:=g.g1
  tab:=g.tab.keep q
  gw:=λb o h=>by simpa [World.setRow]using g.gw b o h
  slots:=λj=>(g.slots j).keep q rfl rfl
  aV:=λj=>(g.aV j).keep q rfl rfl
  vars:=λj c h=>by
   rcases f j c h with⟨rfl,rfl⟩|⟨G,h⟩
   ·exact⟨d,e,m.set,Z,λi n=>⟨(P i n).1,(P i n).2.keep q rfl rfl⟩⟩
   ·obtain⟨U,N,M,D,u⟩:=g.vars j c h
    exact⟨U,N,M.other (λe=>G (g.vv j t c cs h v e)),D,λi n=>⟨(u i n).1,(u i n).2.keep q rfl rfl⟩⟩
  rows:=λi r h=>by
   rcases g.rows i r h with h|⟨b,x,U,A,M,K,h3,h4,h5,h6⟩
   ·exact .inl h
   ·exact .inr ⟨b,x,U,A,M.other (λe=>g.vr t cs i r (b,x) v h A e.symm),K,h3,h4,h5,λk j J hj=>(h6 k j J hj).keep q⟩
  boxes:=λj c h=>by
   obtain⟨A,⟨N,M⟩,K⟩:=g.boxes j c h;exact⟨A,⟨N,M.other (λe=>g.bv j t c cs h v e)⟩,K⟩
  vv:=λj O c z h L he=>by
   obtain⟨_,h⟩:=H j c h;obtain⟨_,L⟩:=H O z L;exact g.vv j O _ _ h L he
  rr:=g.rr
  vr:=λj c i r p h n X=>by obtain⟨_,h⟩:=H j c h;exact g.vr j _ i r p h n X
  bb:=g.bb
  bv:=λj T c z h l=>by obtain⟨_,l⟩:=H T z l;exact g.bv j T c _ h l
  br:=g.br}
end
section
variable {P:Program}{w:World}
def jf(h:aP P t≠0):(sizeOf t).run P w= .ok (aP P t) w:=by
 unfold aP at*
 cases H:P.info? t with
 |none=>simp [H]at h
 |some i=>simp [sizeOf,typeInfo,H]
def Ai(h:aQ P t=true):(isAgg t).run P w= .ok (bT P t) w:=by
 unfold aQ at h
 cases H:P.underlying t with
 |none=>simp [H]at h
 |some d=>
  unfold bT isAgg;simp only [Sem.run_bind,bq H,Result.andThen_ok,H]
  cases d<;>rfl
def iJ(h:eu P t=some e):P.underlying t=some (.slice e):=by
 unfold eu at h;split at h<;>simp_all
def Ms(h:arT P t=some n):∃e,P.underlying t=some (.array n e)/\aP P e=1:=by
 unfold arT at h
 split at h
 ·rename_i m e H
  split at h
  ·rename_i a;cases h;exact⟨e,H,a⟩
  ·cases h
 ·cases h
def xC(h:Eu P t=true):P.underlying t=some .string:=by
 unfold Eu at h;split at h<;>simp_all
def XU(h:boT P t=true):P.underlying t=some .bool:=by
 unfold boT at h;split at h<;>simp_all
def EF{k:IntKind}(h:Ew P t=some k):P.underlying t=some (.int k):=by
 unfold Ew at h;split at h<;>simp_all
def EG{f off:Nat}{a:TypeId}(h:aX P t f=some (off,a)):∃s fd,P.underlying t=some (.struct s)/\s[f]? =some fd/\fd.offset=off/\fd.type=a:=by
 unfold aX at h
 split at h
 ·rename_i s u
  cases H:s[f]? with
  |none=>simp [H]at h
  |some fd=>simp [H]at h;exact⟨s,fd,u,H,h.1,h.2⟩
 ·cases h
def yH{zs:List Value}(h:bG P t=some zs):∃z,(zeroValue t).run P w= .ok z w/\z.cells.toList=zs:=by
 unfold bG at h
 cases H:P.info? t with
 |none=>simp [H]at h
 |some i=>
  cases a:i.zero with
  |none=>simp [H,a]at h
  |some z=>simp [H,a]at h;exact⟨z,by simp [zeroValue,typeInfo,H,a],uu h⟩
end
def B8{w:World}{d:PD}(h:Ey P t=some d):∃z,(zeroValue t).run P w= .ok z w/\aH w G z d:=by
 unfold Ey at h
 cases H:P.info? t with
 |none=>simp [H]at h
 |some i=>
  cases a:i.zero with
  |none=>simp [H,a]at h
  |some z=>
   refine⟨z,by simp [zeroValue,typeInfo,H,a],?_⟩;simp only [H,a,Option.bind_some]at h
   split at h
   ·rename_i C e
    cases e
    split at h<;>cases h
    rename_i o;refine⟨C,rfl,qr,λj hj=>?_⟩;have hj:j<C.size:=uu hj;have b:C.getD j undef=C[j]:=by simp [Array.getD,hj]
    have E:(C.toList.map PD.raw).getD j (.ak [])= .raw C[j]:=j5;rw [b,E];exact .raw _ ((aM.1 o) _ qr)
   ·rename_i v _ e
    cases e
    split at h<;>cases h
    exact .raw _ kf
   ·cases h
def Ac{k:TypeId}{d:TypeDesc}(h:pR P t=some (k,d,e)):P.underlying t=some (.map k e)/\P.underlying k=some d:=by
 unfold pR at h
 split at h
 ·rename_i K E u
  split at h<;>simp only [bo,dz,reduceCtorEq]at h
  ·obtain⟨rfl,rfl,rfl⟩:=h;rename_i H;exact⟨u,H⟩
  ·obtain⟨rfl,rfl,rfl⟩:=h;rename_i H;exact⟨u,H⟩
 ·cases h
def tZ(op:BinOp):Value->Value->Option (Prop×Value)
 | .int k a,.int K b=>
  match op with
  | .add=>some (k=K,.int k (k.wrap (a+b)))
  | .sub=>some (k=K,.int k (k.wrap (a-b)))
  | .mul=>some (k=K,.int k (k.wrap (a*b)))
  | .quo=>some (k=K/\b≠0,.int k (k.wrap (a.tdiv b)))
  | .rem=>some (k=K/\b≠0,.int k (a.tmod b))
  | .eql=>some (k=K,.bool (a==b))
  | .neq=>some (k=K,.bool (a !=b))
  | .lss=>some (k=K,.bool (a<b))
  | .leq=>some (k=K,.bool (a<=b))
  | .gtr=>some (k=K,.bool (a>b))
  | .geq=>some (k=K,.bool (a>=b))
  | .shr=>some (0<=b,.int k (a.fdiv (2 ^ (min b.toNat k.bits))))
  | .shl=>some (0<=b,.int k (k.wrap (a*2 ^ (min b.toNat k.bits))))
  | .and=>some (k=K,.int k (k.wrap ((BitVec.ofInt k.bits a &&& BitVec.ofInt k.bits b).toNat)))
  |_=>none
 | .string a,.string b=>
  match op with
  | .add=>some (((a.size+b.size:Nat):Int)<=IntKind.i64.max,.string (a++b))
  | .eql=>some (True,.bool (a.toList==b.toList))
  | .neq=>some (True,.bool !(a.toList==b.toList))
  | .lss=>some (True,.bool (Op.bytesLess a.toList b.toList))
  | .gtr=>some (True,.bool !(Op.bytesLess a.toList b.toList||a.toList==b.toList))
  |_=>none
 |_,_=>none
def B9{w:World}{op:BinOp}{x y:Value}(h:tZ op x y=some (vc,u))(H:vc)(t:TypeId)(O o:Operand):
  (eqGuard op t O o x y>>=λ_=>binOp op t x y).run P w= .ok u w/\u.oneCell'=true:=by
 unfold tZ at h
 split at h
 ·rename_i k a K b
  have g:∀op,(eqGuard op t O o (.int k a) (.int K b)).run P w= .ok () w:=λop=>by
   unfold eqGuard;cases op<;>rfl
  rw [Sem.run_bind,g]
  cases op<;>simp only [bo,dz,reduceCtorEq]at h
  all_goals first
   |(obtain⟨rfl,rfl⟩:=h;subst H;exact⟨by simp [binOp,Op.intArith,Op.intCmp,Op.intBits],rfl⟩)
   |(obtain⟨rfl,rfl⟩:=h;obtain⟨rfl,e⟩:=H;exact⟨by simp [binOp,Op.intDiv,e],rfl⟩)
   |(obtain⟨rfl,rfl⟩:=h;have d:=Int.not_lt.2 H;refine⟨?_,rfl⟩;simp only [Result.andThen_ok,binOp,Op.shift];rw [ae d];rfl)
 ·rename_i a b
  have g:∀op,(eqGuard op t O o (.string a) (.string b)).run P w= .ok () w:=λop=>by
   unfold eqGuard;cases op<;>rfl
  rw [Sem.run_bind,g]
  cases op<;>simp only [bo,dz,reduceCtorEq]at h
  all_goals first
   |(obtain⟨rfl,rfl⟩:=h;refine⟨?_,rfl⟩;have d:=Int.not_lt.2 H;simp only [Result.andThen_ok,binOp,Op.stringOp];rw [ae d];rfl)
   |(obtain⟨rfl,rfl⟩:=h;refine⟨?_,rfl⟩;simp [binOp,Op.stringOp];done)
 ·cases h
def Nh(op:UnOp):Value->Option Value
 | .bool b=>match op with| .not=>some (.bool !b)|_=>none
 | .int k n=>match op with| .neg=>some (.int k (k.wrap (0-n)))|_=>none
 |_=>none
def HL{w:World}{op:UnOp}{x:Value}(h:Nh op x=some u):(Op.unary op x).run P w= .ok u w/\u.oneCell'=true:=by
 unfold Nh at h
 split at h<;>first|cases h|(cases op<;>simp only [bo,reduceCtorEq]at h<;>subst h<;>exact⟨by simp [Op.unary,Op.intArith],rfl⟩)
def eqV:Value->Value->Option Bool
 | .int k a,.int K b=>if k=K then some (a==b)else none
 | .string a,.string b=>some (a==b)
 | .bool a,.bool b=>some (a==b)
 |_,_=>none
def zC:PD->Nat
 | .raw (.int _ _)=>0
 | .raw (.string _)=>1
 | .raw (.bool _)=>2
 |_=>3
def DK:List PD->List PD->Option Bool
 | [],[]=>some true
 | .raw a::l,.raw b::m=>match eqV a b,DK l m with
  |some x,some y=>some (x&&y)
  |_,_=>none
 |_,_=>none
def xE:List SV->Option (List PD)
 | []=>some []
 | .pd d::l=>(xE l).map (d :: ·)
 |_=>none
def caps:List SV->Option (List Nat)
 | []=>some []
 | .aA t 0::l=>(caps l).map (t :: ·)
 |_=>none
def refs:List SV->Option (List PD)
 | []=>some []
 | .ref d 0::l=>(refs l).map (d :: ·)
 |_=>none
def idx:SV->Option (IntKind×Int)
 | .pd (.raw (.int k i))=>some (k,i)
 |_=>none
def kM(P:Program)(var:Nat->Option (List SV))(row:Nat->Option Row)(t:TypeId):SV->Option (Prop×SV)
 | .ref d off=>
  if bT P t then
   if off=0/\aP P t=d.width then some (aQ P t=true/\d.fZ=true/\aP P t≠0,.pd d)
   else some (aQ P t=true/\off+aP P t<=d.width/\aP P t≠0,.pd (.ak ((d.cells.drop off).take (aP P t))))
  else some (aQ P t=true/\off<d.width,.pd (d.cell off))
 | .aA v off=>match var v with
  |some C=>
   if bT P t then match xE ((C.drop off).take (aP P t))with
    |some D=>some (aQ P t=true/\off+aP P t<=C.length/\aP P t≠0,.pd (.ak D))
    |none=>none
   else some (aQ P t=true/\off<C.length,C.getD off .dead)
  |none=>none
 | .dP id i off=>match row id with
  |some r=>
   if bT P t then
    if off=0/\aP P t=r.sz then some (aQ P t=true/\i<r.ds.length/\(r.ds.getD i (.ak [])).fZ=true/\aP P t≠0,.pd (r.ds.getD i (.ak [])))
    else some (aQ P t=true/\i<r.ds.length/\off+aP P t<=r.sz/\aP P t≠0,.pd (.ak (((r.ds.getD i (.ak [])).cells.drop off).take (aP P t))))
   else some (aQ P t=true/\i<r.ds.length/\off<r.sz,.pd ((r.ds.getD i (.ak [])).cell off))
  |none=>none
 |_=>none
def uV(P:Program)(row:Nat->Option Row)(t:TypeId)(x:SV)(K:IntKind×Int):Option (Prop×SV):=
 match eu P t with
 |none=>match arT P t with
  |none=>none
  |some n=>match x with
   | .ref d o=>some (0<=K.2/\K.2<n,.ref d (o+K.2.toNat))
   | .aA v o=>some (0<=K.2/\K.2<n,.aA v (o+K.2.toNat))
   |_=>none
 |some e=>match x with
  | .pd (.list s D)=>some (aP P e=s/\s≠0/\0<=K.2/\K.2<D.length,.ref (D.getD K.2.toNat (.ak [])) 0)
  | .own id=>match row id with
   |some r=>some (aP P e=r.sz/\r.sz≠0/\0<=K.2/\K.2<r.ds.length,.dP id K.2.toNat 0)
   |none=>none
  | .view id k=>match row id with
   |some r=>some (aP P e=r.sz/\r.sz≠0/\0<=K.2/\k+K.2<r.ds.length,.dP id (k+K.2.toNat) 0)
   |none=>none
  | .nT v n=>some (aP P e=1/\0<=K.2/\K.2<n,.aA v K.2.toNat)
  |_=>none
def DN(P:Program)(t:TypeId)(f:Nat):SV->Option (Prop×SV)
 | .pd d=>match aX P t f with
  |some (off,a)=>
   if bT P a then some (aQ P a=true/\d.fZ=true/\off+aP P a<=d.width/\aP P a≠0,.pd (.ak ((d.cells.drop off).take (aP P a))))
   else some (aQ P a=true/\d.fZ=true/\off<d.width,.pd (d.cell off))
  |none=>none
 |_=>none
def qh(P:Program)(row:Nat->Option Row)(t:TypeId)(f:Nat)(x:SV):Option (Prop×SV):=
 match aX P t f with
 |some (off,a)=>match x with
  | .ref d o=>some (aP P a≠0,.ref d (o+off))
  | .pd (.ptr d)=>some (aP P a≠0,.ref d off)
  | .aA v o=>some (aP P a≠0,.aA v (o+off))
  | .dP id i o=>if(row id).isSome then some (aP P a≠0,.dP id i (o+off))else none
  |_=>none
 |none=>none
def Ju(P:Program)(row:Nat->Option Row)(t:TypeId):SV->Option (Prop×SV)
 | .pd (.list _ d)=>some ((eu P t).isSome=true,.pd (.raw (.int .i64 d.length)))
 | .pd (.raw (.slice _ n _))=>some ((eu P t).isSome=true,.pd (.raw (.int .i64 n)))
 | .pd (.raw (.string s))=>some (Eu P t=true,.pd (.raw (.int .i64 s.size)))
 | .own id=>match row id with
  |some r=>some ((eu P t).isSome=true,.pd (.raw (.int .i64 r.ds.length)))
  |none=>none
 | .view id k=>match row id with
  |some r=>some ((eu P t).isSome=true,.pd (.raw (.int .i64 ((r.ds.length-k:Nat):Int))))
  |none=>none
 | .nT _ n=>some ((eu P t).isSome=true,.pd (.raw (.int .i64 n)))
 |_=>none
def Nj:SV->SV->SV->Option (Prop×SV)
 | .pd (.raw (.bool c)),.pd (.raw (.bool x)),.pd (.raw (.bool y))=>some (True,.pd (.raw (.bool (if c then x else y))))
 | .pd (.raw (.bool c)),.gd C (.pd (.raw (.bool x))),.pd (.raw (.bool y))=>some (c=true->C=true,.pd (.raw (.bool (if c then x else y))))
 | .pd (.raw (.bool c)),.pd (.raw (.bool x)),.gd C (.pd (.raw (.bool y)))=>some (c=false->C=true,.pd (.raw (.bool (if c then x else y))))
 | .pd (.raw (.bool true)),y,_=>some (True,y)
 | .pd (.raw (.bool false)),_,z=>some (True,z)
 |_,_,_=>none
def bound(d:Int):Option SV->Option Int
 |none=>some d
 |some (.pd (.raw (.int _ i)))=>some i
 |_=>none
def Jv(P:Program)(t:TypeId)(x:SV)(lo hi:Option SV):Option (Prop×SV):=
 match x with
 | .pd (.list z d)=>match eu P t,bound 0 lo,bound d.length hi with
  |some e,some l,some h=>some (aP P e=z/\z≠0/\0<=l/\l<=h/\h<=d.length,.pd (.list z ((d.take h.toNat).drop l.toNat)))
  |_,_,_=>none
 | .pd (.raw (.string s))=>match bound 0 lo,bound s.size hi with
  |some l,some h=>some (Eu P t=true/\0<=l/\l<=h/\h<=s.size,.pd (.raw (.string (s.extract l.toNat h.toNat))))
  |_,_=>none
 |_=>none
def Jw(row:Nat->Option Row):SV->Option (Prop×SV)
 | .ref d o=>some (True,.ref d o)
 | .aA v o=>some (True,.aA v o)
 | .dP i k o=>if(row i).isSome then some (True,.dP i k o)else none
 | .fn F=>some (True,.fn F)
 | .clo f c=>some (True,.clo f c)
 | .pd (.raw (.func (.func f) a b))=>some (True,.pd (.raw (.func (.func f) a b)))
 | .pd (.clo f D)=>some (True,.pd (.clo f D))
 | .pd (.ptr d)=>some (True,.pd (.ptr d))
 |_=>none
def Lm(P:Program)(op:BinOp)(t:TypeId)(b:Bool):Option (Prop×SV):=match op with
 | .eql=>some (XR P t=true,.pd (.raw (.bool b)))
 | .neq=>some (XR P t=true,.pd (.raw (.bool !b)))
 |_=>none
def yu(P:Program)(op:BinOp)(t:TypeId):SV->SV->Option (Prop×SV)
 | .pd (.raw (.bool a)),.pd (.raw (.bool b))=>match op with
  | .eql=>some (boT P t=true,.pd (.raw (.bool (a==b))))
  | .neq=>some (boT P t=true,.pd (.raw (.bool (a !=b))))
  |_=>none
 | .pd (.raw (.pointer none)),.pd (.raw (.pointer none))=>Lm P op t true
 | .pd (.raw u),.pd (.raw v)=>(tZ op u v).map λp=>(p.1,.pd (.raw p.2))
 | .pd (.ak x),.pd (.ak s)=>match op,DK x s with
  | .eql,some b=>some (eqT P t=some (x.map zC),.pd (.raw (.bool b)))
  | .neq,some b=>some (eqT P t=some (x.map zC),.pd (.raw (.bool !b)))
  |_,_=>none
 | .pd (.ptr _),.pd (.raw (.pointer none))=>Lm P op t false
 | .aA _ _,.pd (.raw (.pointer none))=>Lm P op t false
 | .ref _ _,.pd (.raw (.pointer none))=>Lm P op t false
 |_,_=>none
def vU(ρ:Operand->SV):List (Nat×Operand)->Option (List (Nat×PD))
 | []=>some []
 |(i,x)::l=>match ρ x,vU ρ l with
  | .pd d,some r=>some ((i,d)::r)
  |_,_=>none
def Jy(P:Program)(t:TypeId)(zs:List PD):List (Nat×PD)->Option (Prop×List PD)
 | []=>some (True,zs)
 |(i,d)::l=>match aX P t i with
  |some (off,f)=>match Jy P t (zs.take off++d.cells++zs.drop (off+d.width)) l with
   |some (p,r)=>some (aP P f≠0/\aP P f=d.width/\off+d.width<=zs.length/\p,r)
   |none=>none
  |none=>none
def DR(P:Program)(ρ:Operand->SV)(row:Nat->Option Row)(f:Callee)(xs:List Operand)(T:List TypeId):Option (Prop×SV):=
 match f with
 | .builtin b=>match b with
  | .len=>match xs,T with
   | [x],[t]=>Ju P row t (ρ x)
   |_,_=>none
  | .min=>match xs with
   | [x,y]=>match ρ x,ρ y with
    | .pd (.raw (.int k a)),.pd (.raw (.int _ b))=>some (True,.pd (.raw (.int k (if b<a then b else a))))
    |_,_=>none
   |_=>none
  | .max=>match xs with
   | [x,y]=>match ρ x,ρ y with
    | .pd (.raw (.int k a)),.pd (.raw (.int _ b))=>some (True,.pd (.raw (.int k (if b>a then b else a))))
    |_,_=>none
   |_=>none
  |_=>none
 |_=>none
def ay(P:Program)(ρ:Operand->SV)(var:Nat->Option (List SV))(row:Nat->Option Row):Op->Option (Prop×SV)
 | .move x=>some (True,ρ x)
 | .assign x=>some (True,ρ x)
 | .pick c a b=>Nj (ρ c) (ρ a) (ρ b)
 | .load t x=>kM P var row t (ρ x)
 | .nilCheck x=>Jw row (ρ x)
 | .binOp op t x y _=>yu P op t (ρ x) (ρ y)
 | .unOp op _ x=>match ρ x with
  | .pd (.raw u)=>(Nh op u).map λp=>(True,.pd (.raw p))
  |_=>none
 | .convert e g x=>match ρ x,Ew P g with
  | .pd (.raw (.int _ n)),some k=>some (aQ P e=true,.pd (.raw (.int k (k.wrap n))))
  |_,_=>none
 | .makeFunc (.func f) first C=>if first.isEmpty then match caps (C.toList.map ρ)with
   |some T=>some (True,.clo f T)
   |none=>(refs (C.toList.map ρ)).map λD=>(True,.pd (.clo f D))
  else none
 | .slice t x l H none=>Jv P t (ρ x) (l.map ρ) (H.map ρ)
 | .fieldAddr t x f=>qh P row t f (ρ x)
 | .field t x f=>DN P t f (ρ x)
 | .indexAddr t x i=>(idx (ρ i)).bind λK=>uV P row t (ρ x) K
 | .index t x i=>match ρ x,idx (ρ i)with
  | .pd (.raw (.string s)),some (_,i)=>some (Eu P t=true/\0<=i/\i<s.size,.pd (.raw (.int .u8 ((s.data.toList.getD i.toNat 0).toNat:Int))))
  |_,_=>none
 | .extract x i=>match ρ x with
  | .tpl D=>some (i<D.length,.pd (D.getD i (.ak [])))
  |_=>none
 | .call c=>DR P ρ row c.callee c.args.toList c.argTypes.toList
 | .build t d=>match vU ρ d.toList,bG P t with
  |some h,some z=>match Jy P t (z.map .raw) h with
   |some (p,r)=>some (p/\z.all Value.oneCell'=true/\jw P t=true,.pd (.ak r))
   |none=>none
  |_,_=>none
 | .makeInterface t x=>match ρ x with
  | .pd (.raw u)=>some (ifT P t=false,.pd (.raw (.iface t u)))
  |_=>none
 |_=>none
section
variable {C:Cx}{s:St}{a:Act}{w:World}{E:Env}{P:Program}
def EH{o:Nat}(m:ds.length=n)(h:∀j,j<n->∃v,w.cell? ⟨b,o+j,none⟩=some v/\Rd w G v (ds.getD j (.ak []))):
  ∃cs:Array Value,(loadCells ⟨b,o,none⟩ n).run P w= .ok cs w/\aH w G (.agg cs) (.ak ds):=by
 let l:List Value:=(List.range n).map λj=>(w.cell? ⟨b,o+j,none⟩).getD undef
 have a:l.length=n:=by simp [l]
 have i:∀j,j<n->∃v,l[j]? =some v/\w.cell? ⟨b,o+j,none⟩=some v/\Rd w G v (ds.getD j (.ak [])):=by
  intro j e;obtain⟨v,k,r⟩:=h j e;exact⟨v,by simp [l,e,k],k,r⟩
 have H:=run_loadCells_list (P:=P) w ⟨b,o,none⟩ l (λj v g=>by
  have e:j<n:=by rw [<-a];exact(kv.1 g).1
  obtain⟨s,f,q,_⟩:=i j e;rw [f]at g;cases g;rw [addr_add];exact q)
 rw [a]at H;refine⟨l.toArray,H,l.toArray,rfl,by simp [a,m],λj e=>?_⟩;obtain⟨v,f,_,p⟩:=i j qk
 have:l.toArray.getD j undef=v:=by
  have d:j<l.length:=qk;rw [ca d]at f;simp only [bo]at f;simp [d,f]
 rw [this];exact p
def vV{ad:Addr}(k:aQ P t=true)(b:bT P t=true)(H:aP P t≠0)(a:aP P t=n)(h:(loadCells ad n).run P w= .ok cs w):
  (loadVar t ad).run P w= .ok (.agg cs) w:=by
 subst a;simp [loadVar,Ai k,b,jf H,h]
def qC{ad:Addr}(H:aQ P t=true)(a:bT P t=false)(h:w.cell? ad=some v):(loadVar t ad).run P w= .ok v w:=by
 simp [loadVar,Ai H,a,h]
def DT(l:List α)(off n j:Nat)(d:α)(h:j<n):((l.drop off).take n).getD j d=l.getD (off+j) d:=by
 simp [ag,h]
def KA:∀{l:List SV} {ds:List PD},xE l=some ds->ds.length=l.length
 | [],ds,h=>by simp only [xE,bo]at h;subst h;rfl
 |x::l,ds,h=>by
  cases x<;>simp only [xE,reduceCtorEq]at h
  cases H:xE l with
  |none=>simp [H]at h
  |some r=>simp [H]at h;subst h;simp [KA H]
def Ut:∀{l:List SV} {ds:List PD},xE l=some ds->∀j,j<l.length->l.getD j .dead= .pd (ds.getD j (.ak []))
 | [],_,_,j,hj=>vq
 |x::l,ds,h,j,hj=>by
  cases x<;>simp only [xE,reduceCtorEq]at h
  cases H:xE l with
  |none=>simp [H]at h
  |some r=>
   simp [H]at h;subst h
   cases j with
   |zero=>rfl
   |succ j=>simpa using Ut H j (uu hj)
def aB.Aj(g:aB C s a w E){t:Nat}{cs:List SV}(d:s.var t=some cs)(b:j<cs.length):
  ∃v,w.cell? ⟨E.vb t,j,none⟩=some v/\v.oneCell'=true/\Rel C.P w E s.row v (cs.getD j .dead):=by
 obtain⟨r,e,⟨_,_,k⟩,f,i⟩:=g.vars t cs d;have h:=i j b;refine⟨r.getD j undef,?_,h⟩;rw [cell_of_row w _ j r e _ k];have H:j<r.size:=cj b f.1;simp [H]
def aB.Ak(g:aB C s a w E){r:Row}(f:s.row i=some r)(H:E.rb i=some (b,cap)){k:Nat}(hk:k<r.ds.length)(l:j<r.sz):
  ∃v,w.cell? ⟨b,k*r.sz+j,none⟩=some v/\Rd w E.G v ((r.ds.getD k (.ak [])).cell j):=by
 rcases g.rows i r f with⟨h,_⟩|⟨x,e,d,p,⟨_,_,m⟩,u,o,_,_,n⟩
 ·rw [h]at H;cases H
 ·rw [p]at H;cases H
  refine⟨d.getD (k*r.sz+j) undef,?_,n k j hk l⟩;rw [cell_of_row w _ _ d r.e _ m];have t:k*r.sz+r.sz<=r.ds.length*r.sz:=ye;have q:r.ds.length*r.sz<=cap*r.sz:=c9 _ o;have:k*r.sz+j<d.size:=qk;simp [this]
def aB.oM(g:aB C s a w E){r:Row}(d:s.row i=some r){k:Nat}(H:k<r.ds.length):(r.ds.getD k (.ak [])).width=r.sz:=by
 rcases g.rows i r d with⟨_,h⟩|⟨o,b,f,n,_,m,l,_,e,j⟩
 ·rw [h]at H;simp at H
 ·exact e k H
def vW(d:PD)(off n j:Nat)(h:j<n)(H:off+n<=d.width):((d.cells.drop off).take n).getD j (.ak [])=d.cell (off+j):=by
 rw [DT _ _ _ _ _ h,PD.jy d (off+j) qk]
def nN(d:PD)(off n:Nat)(h:off+n<=d.width):((d.cells.drop off).take n).length=n:=by
 simp [PD.bD];omega
def BL(g:aB C s a w E){v:SV}(h:kM C.P s.var s.row t x=some (vc,v))(A:vc)(hu:Rel C.P w E s.row u x):
  ∃U,(ea t u).run C.P w= .ok U w/\Rel C.P w E s.row U v:=by
 cases x with
 |ref d off=>
  obtain⟨b,D,rfl,hr⟩:=hu;simp only [kM]at h
  have one:aQ C.P t=true->bT C.P t=false->off<d.width->∃U,(ea t (.pointer (some ⟨b,D+off,none⟩))).run C.P w= .ok U w/\Rel C.P w E s.row U (.pd (d.cell off)):=by
   intro z e hlt;obtain⟨_,q,p,H⟩:=hr off hlt;exact⟨q,by simp [ea,ez,qC z e p],H.tV⟩
  have m:aQ C.P t=true->bT C.P t=true->off+aP C.P t<=d.width->aP C.P t≠0->∃U,(ea t (.pointer (some ⟨b,D+off,none⟩))).run C.P w= .ok U w/\Rel C.P w E s.row U (.pd (.ak ((d.cells.drop off).take (aP C.P t)))):=by
   intro z e K J
   obtain⟨cs,Q,M⟩:=EH (P:=C.P) (w:=w) (G:=E.G) (b:=b) (o:=D+off) (n:=aP C.P t) (ds:=(d.cells.drop off).take (aP C.P t)) (nN d off _ K) (λj T=>by
    obtain⟨_,q,p,H⟩:=hr (off+j) qk;rw [<-et]at p;exact⟨q,p,by rw [vW d off _ j T K];exact H⟩)
   exact⟨.agg cs,by simp [ea,ez,vV z e J rfl Q],M⟩
  split at h
  ·rename_i e
   split at h
   ·rename_i h0
    obtain⟨rfl,O⟩:=h0
    cases h
    obtain⟨z,k,J⟩:=A;obtain⟨U,h1,L⟩:=m z e qk J;refine⟨U,h1,?_⟩
    cases d with
    |ak ds=>
     simp only [PD.cells,PD.width,nc]at L O;rw [O,rn]at L;exact L
    |raw _=>simp [PD.fZ]at k
    |list _ _=>simp [PD.fZ]at k
    |clo _ _=>simp [PD.fZ]at k
    |mp _ _=>simp [PD.fZ]at k
    |ptr _=>simp [PD.fZ]at k
    |unk=>simp [PD.fZ]at k
   ·cases h;exact m A.1 e A.2.1 A.2.2
  ·rename_i e
   cases h;exact one A.1 (uu e) A.2
 |aA v0 off=>
  simp only [Rel]at hu;subst hu;simp only [kM]at h
  split at h
  ·rename_i cs M
   split at h
   ·rename_i e
    split at h
    ·rename_i ds hg
     cases h
     obtain⟨z,K,J⟩:=A;have hlen:=KA hg;have Z:=Ut hg;have hl2:((cs.drop off).take (aP C.P t)).length=aP C.P t:=qz
     obtain⟨c,Q,hv'⟩:=EH (P:=C.P) (w:=w) (G:=E.G) (b:=E.vb v0) (o:=off) (n:=aP C.P t) (ds:=ds) qk (λj T=>by
      obtain⟨q,p,h1,H⟩:=g.Aj M (j:=off+j) qk;refine⟨q,p,?_⟩;have:=Z j qk;rw [DT _ _ _ _ _ T]at this;rw [this]at H;simp only [Rel]at H;generalize ds.getD j (.ak [])=d at H⊢
      cases d with
      |raw _=>exact H
      |list _ _=>exact H
      |clo _ _=>exact H
      |mp _ _=>exact H
      |ptr _=>exact H
      |unk=>exact H
      |ak l=>obtain⟨x,rfl,_⟩:=H;simp [Value.oneCell']at h1)
     exact⟨.agg c,by simp [ea,ez,vV z e J rfl Q],hv'⟩
    ·cases h
   ·rename_i e
    cases h
    obtain⟨q,p,_,H⟩:=g.Aj M A.2;exact⟨q,by simp [ea,ez,qC A.1 (uu e) p],H⟩
  ·cases h
 |dP id i off=>
  simp only [kM]at h
  split at h
  ·rename_i r f
   obtain⟨b,cap,hb,rfl⟩:=hu r f
   have m:aQ C.P t=true->bT C.P t=true->i<r.ds.length->off+aP C.P t<=r.sz->aP C.P t≠0->∃U,(ea t (.pointer (some ⟨b,i*r.sz+off,none⟩))).run C.P w= .ok U w/\Rel C.P w E s.row U (.pd (.ak (((r.ds.getD i (.ak [])).cells.drop off).take (aP C.P t)))):=by
    intro z e X K J;have O:=g.oM f X
    obtain⟨cs,Q,M⟩:=EH (P:=C.P) (w:=w) (G:=E.G) (b:=b) (o:=i*r.sz+off) (n:=aP C.P t) (ds:=((r.ds.getD i (.ak [])).cells.drop off).take (aP C.P t)) (nN _ off _ qk) (λj T=>by
     obtain⟨q,p,H⟩:=g.Ak f hb X (j:=off+j) qk;rw [<-et]at p;exact⟨q,p,by rw [vW _ off _ j T qk];exact H⟩)
    exact⟨.agg cs,by simp [ea,ez,vV z e J rfl Q],M⟩
   split at h
   ·rename_i e
    split at h
    ·rename_i h0
     obtain⟨rfl,O⟩:=h0
     cases h
     obtain⟨z,X,k,J⟩:=A;obtain⟨U,h1,L⟩:=m z e X qk J;refine⟨U,h1,?_⟩;have N:=g.oM f X;generalize r.ds.getD i (.ak [])=d at*
     cases d with
     |ak ds=>
      simp only [PD.cells,PD.width,nc]at L N;rw [O,<-N,rn]at L;exact L
     |raw _=>simp [PD.fZ]at k
     |list _ _=>simp [PD.fZ]at k
     |clo _ _=>simp [PD.fZ]at k
     |mp _ _=>simp [PD.fZ]at k
     |ptr _=>simp [PD.fZ]at k
     |unk=>simp [PD.fZ]at k
    ·cases h;exact m A.1 e A.2.1 A.2.2.1 A.2.2.2
   ·rename_i e
    cases h
    obtain⟨q,p,H⟩:=g.Ak f hb A.2.1 A.2.2;exact⟨q,by simp [ea,ez,qC A.1 (uu e) p],H.tV⟩
  ·cases h
 |_=>simp [kM]at h
def uf(k:IntKind)(i:Int):(asIntOf (.int k i)).run P w= .ok (k,i) w:=rfl
def Uu{k:IntKind}{i:Int}(h:idx x=some (k,i)){row:Nat->Option Row}(H:Rel P w E row u x):u= .int k i:=by
 cases x with
 |pd d=>cases d with
  |raw v=>
   have:=aH.aC H;subst this
   cases u<;>simp [idx]at h
   obtain⟨rfl,rfl⟩:=h;rfl
  |_=>simp [idx]at h
 |_=>simp [idx]at h
def Rd.jM(h:Rd w G v (.list sz ds)):
  (∃p,v= .slice p 0 0/\ds=[])\/∃b off cap,v= .slice (some ⟨b,off,none⟩) ds.length cap/\ds.length<=cap/\cap<=maxLen/\(∀i,i<ds.length->(ds.getD i (.ak [])).width=sz)/\∀i,i<ds.length->lD w G b (off+i*sz) (ds.getD i (.ak [])):=by
 cases h with
 |nil=>exact .inl ⟨none,rfl,rfl⟩
 |empty _ a=>exact .inl ⟨some a,rfl,rfl⟩
 |list _ _ b off cap s d x k Q H g=>
  refine .inr ⟨b,off,cap,rfl,d,x,k,λi f j e=>?_⟩;rw [k i f]at e;exact⟨Q i j f e,s i j,H i j f e,g i j f e⟩
def Rd.emp(sz:Nat)(p:Option Addr):Rd w G (.slice p 0 0) (.list sz []):=by
 cases p with
 |none=>exact .nil sz
 |some a=>exact .empty sz a
def Rd.nV{off:Nat}(p:ds.length<=cap)(x:cap<=maxLen)(f:∀i,i<ds.length->(ds.getD i (.ak [])).width=sz)
  (h:∀i,i<ds.length->lD w G b (off+i*sz) (ds.getD i (.ak []))):Rd w G (.slice (some ⟨b,off,none⟩) ds.length cap) (.list sz ds):=by
 have d:∀i j,i<ds.length->j<sz->G b (off+i*sz+j)/\∃v,w.cell? ⟨b,off+i*sz+j,none⟩=some v/\Rd w G v ((ds.getD i (.ak [])).cell j):=λi j H a=>h i H j (by rw [f i H];exact a);refine .list sz ds b off cap (λi j=>(w.cell? ⟨b,off+i*sz+j,none⟩).getD undef) p x f (λi j H a=>(d i j H a).1) (λi j H a=>?_) (λi j H a=>?_)
 ·obtain⟨_,v,e,_⟩:=d i j H a;rw [e];rfl
 ·obtain⟨_,v,e,r⟩:=d i j H a;rw [e];exact r
def GZ{v:SV}{K:IntKind×Int}{row:Nat->Option Row}(hrb:∀id r,row id=some r->0<r.ds.length->∃b cap,E.rb id=some (b,cap))
  (h:uV P row t x K=some (vc,v))(A:vc)(f:Rel P w E row u x):
  ∃U,(k5 t u (.int K.1 K.2)).run P w= .ok U w/\Rel P w E row U v:=by
 obtain⟨k,i⟩:=K;unfold uV at h
 split at h
 ·split at h
  ·cases h
  ·rename_i n T
   obtain⟨e,G,J⟩:=Ms T;have z:=jf (P:=P) (w:=w) (t:=e) qk;rw [J]at z
   have C:∀(b off:Nat),0<=i->i<(n:Int)->(k5 t (.pointer (some ⟨b,off,none⟩)) (.int k i)).run P w= .ok (.pointer (some ⟨b,off+i.toNat,none⟩)) w:=by
    intro b off d l;simp [k5,uf,bq G,ez,d,l,z,addr_add]
   split at h
   ·cases h
    obtain⟨b,o,rfl,L⟩:=f;exact⟨_,C b _ A.1 A.2,b,o,by rw [et],L⟩
   ·cases h
    have f:=(show u=_ from f);subst f;exact⟨_,C _ _ A.1 A.2,rfl⟩
   ·cases h
 ·rename_i e he
  have eP:=iJ he
  have C:∀(b off len cap:Nat) (j:Nat),aP P e=j->j≠0->0<=i->i<(len:Int)->
    (k5 t (.slice (some ⟨b,off,none⟩) len cap) (.int k i)).run P w= .ok (.pointer (some ⟨b,off+i.toNat*j,none⟩)) w:=by
   intro b off len cap j s m d l;have z:=jf (P:=P) (w:=w) (t:=e) qk;rw [s]at z;simp [k5,uf,bq eP,d,l,z,addr_add]
  split at h
  ·rename_i j N
   cases h
   obtain⟨s,m,d,l⟩:=A;rcases Rd.jM f with⟨p,rfl,rfl⟩|⟨b,off,cap,rfl,_,_,hw,L⟩
   ·simp at l;omega
   ·have Z:i.toNat<N.length:=qk
    exact⟨_,C b off N.length cap j s m d l,b,off+i.toNat*j,qr,L _ Z⟩
  ·split at h
   ·rename_i id r H
    cases h
    obtain⟨s,m,d,l⟩:=A;obtain⟨b,cap,q⟩:=hrb _ _ H (by simp at l;omega);rcases f r H with⟨h1,rfl⟩|⟨O,g,M,rfl⟩
    ·rw [h1]at q;cases q
    ·refine⟨_,C O 0 r.ds.length g r.sz s m d l,λQ a=>?_⟩
     rw [H]at a;cases a;exact⟨O,g,M,qr⟩
   ·cases h
  ·split at h
   ·rename_i id D _ r H
    cases h
    obtain⟨s,m,d,l⟩:=A;obtain⟨X,b,cap,q,rfl⟩:=f r H;refine⟨_,C b (D*r.sz) (r.ds.length-D) (cap-D) r.sz s m d qk,λQ a=>?_⟩;rw [H]at a;cases a;exact⟨b,cap,q,by rw [d7,Nat.add_zero]⟩
   ·cases h
  ·cases h
   obtain⟨s,d,l⟩:=A;simp only [Rel]at f;obtain⟨cap,_,_,rfl⟩:=f;exact⟨_,C _ 0 _ _ 1 s qu d l,by simp [Rel]⟩
  ·cases h
end
end Go.au
