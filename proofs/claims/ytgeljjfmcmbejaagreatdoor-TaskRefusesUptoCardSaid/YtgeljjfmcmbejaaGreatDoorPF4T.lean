/- TaskRefuses of cleanselaw50 returns true for every image, query and numbers whose bulk is at most 1048576, and each argument reads afterwards as before. Conditions: that bound, that the arguments can be read, and those of the given card, which ties the tables uint64pow10, deBruijn32tab and deBruijn64tab and the errors ErrRange and ErrSyntax of strconv to the text of the program. -/
import Derived.Test.YtgeljjfmcmbejaaGreatDoorPHx6
set_option linter.all false
set_option linter.deprecated false
open Go renaming trodAll_cons_mk→nr
open Go.DataW renaming trod_lt→nb
open Go.Lib renaming itoa_length_le→ix
open Go.Proofs.Tryz renaming prog→aa,func4→ns,underlying3→cM,underlying44→sd,underlying35→AK,f4→ee,underlying5→lL,checked→nw
open Go.Value renaming okWide→lP
open Int renaming tmod_eq_emod_of_nonneg→AQ,emod_nonneg→sc,emod_lt_of_pos→r7
open List renaming length_cons→an,length_nil→a9,range→aw,getElem_range→r5,flatten_cons→fj,contains_nil→dx
set_option maxRecDepth 100000
set_option maxHeartbeats 4000000
namespace Go.au
variable {xs:List Value}{k b m t j i mr:Nat}{D:Nat->List PD}{E:Env}{ids vs:List Nat}
structure Head(e:TypeId)(n:Nat)(w:World)(G:Pub)(v:Value)(ds:List PD):Prop where
 xs:∃xs,w.ownsRow 0 e 1 v ds.length xs/\∀j,j<ds.length->(xs.getD j undef).oneCell'=true/\Rd w G (xs.getD j undef) ((ds.getD j (.ak [])).cell 0)
 wid:∀j,j<ds.length->(ds.getD j (.ak [])).width=1
 low:∀b,v.ownBlock=some b->n<=b/\∀o,¬G b o
section
variable {e:TypeId}{n:Nat}{w w':World}{G G':Pub}{v v':Value}{ds:List PD}
def Head.nil:Head e n w G (.slice none 0 0) []:=⟨⟨[],⟨rfl,.inl ⟨rfl,rfl⟩⟩,λj hj=>vq⟩,λj hj=>vq,λb h=>xa⟩
def Aa(h:w.ownsRow 0 e 1 v k xs)(H:v.ownBlock=some b):∃cap cur,v= .slice (some ⟨b,0,none⟩) k cap/\w.heap[b]? =some (.cells cur e (0,0))/\k<=cap/\cap<=maxLen/\cur.size=cap/\cur.toList.take k=xs:=by
 rcases h.2 with⟨rfl,_⟩|⟨g,cap,cur,rfl,_,a,j,i,f,d⟩
 ·cases H
 ·simp only [Value.ownBlock,bo]at H
  subst H;exact⟨cap,cur,rfl,a,j,i,uu f,uu d⟩
def Head.lt(h:Head e n w G v ds)(a:v.ownBlock=some b):b<w.heap.size:=by
 obtain⟨x,H,_⟩:=h.xs;obtain⟨_,_,_,g,_⟩:=Aa H a;exact(bm.1 g).1
def Xe(h:w.ownsRow 0 e 1 v k xs)(a:∀b,v.ownBlock=some b->w'.heap[b]? =w.heap[b]?):w'.ownsRow 0 e 1 v k xs:=by
 refine⟨h.1,?_⟩;rcases h.2 with f|⟨g,p,C,rfl,i,H,d⟩
 ·exact .inl f
 ·exact .inr ⟨g,p,C,rfl,i,(a g rfl).trans H,d⟩
def Head.keep(h:Head e n w G v ds)(i:∀b,v.ownBlock=some b->w'.heap[b]? =w.heap[b]?)(l:∀b o,G' b o->G b o\/w.heap.size<=b)(k:Keeps w G w' G'):Head e n w' G' v ds:=by
 obtain⟨x,g,r⟩:=h.xs;refine⟨⟨x,Xe g i,λj d=>⟨(r j d).1,(r j d).2.keep k⟩⟩,h.wid,λb H=>⟨(h.low b H).1,λo a=>?_⟩⟩;rcases l b o a with f|f
 ·exact(h.low b H).2 o f
 ·have:=h.lt H;omega
def Head.read(h:Head e n w G v ds)(s:∀b o,G b o->G' b o)(f:∀b o,v.ownBlock=some b->G' b o):aH w G' v (.list 1 ds):=by
 obtain⟨x,k,r⟩:=h.xs;have l:Keeps w G w G':=⟨s,λ_ _ _=>rfl,λ_ _ _=>rfl⟩;rcases k.2 with⟨rfl,D⟩|⟨g,E,C,rfl,_,q,A,z,u,t⟩
 ·have:ds=[]:=d8.1 D
  rw [this];exact(Rd.emp (sz:=1) (p:=none)).tV
 ·refine(Rd.nV A z h.wid λi H j m=>?_).tV
  rw [h.wid i H]at m;obtain rfl:j=0:=qk;have a:i<C.size:=by rw [u];omega
  have d:x.getD i undef=C[i]:=by
   rw [<-t,ag,List.getElem?_take_of_lt qk];simp [a]
  refine⟨f g _ rfl,C[i],by simp [World.cell?,q,a],?_⟩;rw [<-d];exact(r i H).2.keep l
def Head.more{x:Value}{d:PD}(h:Head e n w G v ds)(m:∀z,w.ownsRow 0 e 1 v ds.length z->(∀j,j<ds.length->(z.getD j undef).oneCell'=true/\Rd w G (z.getD j undef) ((ds.getD j (.ak [])).cell 0))->xs=z++[x])
  (i:w'.ownsRow 0 e 1 v' (ds.length+1) xs)(l:Keeps w G w' G)(u:x.oneCell'=true)(r:Rd w G x (d.cell 0))(p:d.width=1)(A:w.heap.size<=w'.heap.size)
  (g:v'.ownBlock=v.ownBlock\/v'.ownBlock=some w.heap.size)(q:n<=w.heap.size)(t:∀b o,G b o->b<w.heap.size):Head e n w' G v' (ds++[d]):=by
 obtain⟨z,f,a⟩:=h.xs;have E:=m z f a;subst E;have s:z.length=ds.length:=uu f.1;refine⟨⟨z++[x],uu i,λj k=>?_⟩,λj k=>?_,λb H=>?_⟩
 ·simp only [bd,an,a9]at k
  simp only [ag]
  by_cases c:j<ds.length
  ·rw [cv qk,cv c]
   have:=a j c;simp only [ag]at this;exact⟨this.1,this.2.keep l⟩
  ·obtain rfl:j=ds.length:=qk
   rw [dj qk,dj qk,s];simp only [nt,List.getElem?_cons_zero,Option.getD_some];exact⟨u,r.keep l⟩
 ·simp only [bd,an,a9]at k
  simp only [ag]
  by_cases c:j<ds.length
  ·rw [cv c]
   have:=h.wid j c;simpa only [ag]using this
  ·obtain rfl:j=ds.length:=qk
   rw [dj qk];simpa using p
 ·rcases g with g|g
  ·rw [g]at H;exact h.low b H
  ·rw [g]at H;cases H
   exact⟨q,λo i=>by have:=t _ _ i;omega⟩
structure jJ(e:TypeId)(n:Nat)(w:World)(G:Pub)(m:Nat)(hs:Nat->Value)(D:Nat->List PD):Prop where
 own:∀t,t<m->Head e n w G (hs t) (D t)
 apart:∀t t' b,t<m->t'<m->t≠t'->(hs t).ownBlock=some b->(hs t').ownBlock≠some b
def jJ.keep{s:Nat->Value}(h:jJ e n w G m s D)(d:∀b,b<w.heap.size->(∃t,t<m/\(s t).ownBlock=some b)->w'.heap[b]? =w.heap[b]?)(f:∀b o,G' b o->G b o\/w.heap.size<=b)(k:Keeps w G w' G'):jJ e n w' G' m s D:=
 ⟨λt a=>(h.own t a).keep (λb H=>d b ((h.own t a).lt H) ⟨t,a,H⟩) f k,h.apart⟩
def uT{α:Type}(f:Nat->α)(t:Nat)(x:α):Nat->α:=λj=>if j=t then x else f j
def nI{α:Type}(f:Nat->α)(t:Nat)(x:α):uT f t x t=x:=af rfl
def jc{α:Type}{f:Nat->α}{x:α}(h:j≠t):uT f t x j=f j:=ae h
def jJ.step{s:Nat->Value}{k:List PD}(h:jJ e n w G m s D)(l:t<m)(q:w.grownBy w' (s t).ownBlock)(v:Head e n w' G v' k)(a:v'.ownBlock=(s t).ownBlock\/v'.ownBlock=some w.heap.size)(p:Keeps w G w' G):
  jJ e n w' G m (uT s t v') (uT D t k):=by
 refine⟨λj g=>?_,λj J b g f d H=>?_⟩
 ·by_cases c:j=t
  ·subst c;rw [nI,nI];exact v
  ·rw [jc c,jc c]
   refine(h.own j g).keep (λb i=>q.block b ((h.own j g).lt i) λe=>?_) (λb o h=>.inl h) p;exact h.apart t j b l g (bt c) e.symm i
 ·by_cases c:j=t
  ·subst c
   rw [nI]at H;rw [jc (bt d)];rcases a with a|a
   ·rw [a]at H;exact h.apart j J b g f d H
   ·rw [a]at H;cases H
    intro E;have:=(h.own J f).lt E;omega
  ·rw [jc c]at H
   by_cases C:J=t
   ·subst C
    rw [nI];rcases a with a|a
    ·rw [a];exact h.apart j J b g f d H
    ·rw [a]
     intro E;cases E;have:=(h.own j g).lt H;omega
   ·rw [jc C];exact h.apart j J b g f d H
def jJ.pub(G:Pub)(m:Nat)(h:Nat->Value):Pub:=λb o=>G b o\/∃t,t<m/\(h t).ownBlock=some b
def jJ.reads{H:Nat->Value}(h:jJ e n w G m H D)(t:Nat)(a:t<m):aH w (jJ.pub G m H) (H t) (.list 1 (D t)):=
 (h.own t a).read (λ_ _ h=>.inl h) (λb o d=>.inr ⟨t,a,d⟩)
end
section
variable (P:Program)(w:World)(G:Pub)(post:Exit->Act->World->Prop)(df:List Deferred)(rb:Nat->Option (Option (Nat×Nat)))(mp:Nat->Prop)
end
structure Nst(C:Cx)(w:World)(G:Pub)(rb:Nat->Option (Option (Nat×Nat)))(mp:Nat->Prop):Prop where
 kept:Kept C.dr C.mu C.w0 w
 g0:∀b o,C.G0 b o->G b o
 g1:∀b o,G b o->C.G0 b o\/C.w0.heap.size<=b
 gw:∀b o,G b o->b<w.heap.size
 own:∀i p,rb i=some (some p)->C.w0.heap.size<=p.1/\p.1<w.heap.size/\∀o,¬G p.1 o
 map:∀b,mp b->C.w0.heap.size<=b/\b<w.heap.size/\(∀o,¬G b o)/\∃x,w.heap[b]? =some x/\∀cs e d,x≠.cells cs e d
def jK(s:St)(E:Env):Nat->Option (Option (Nat×Nat)):=λi=>if(s.row i).isSome=true then some (E.rb i)else none
def SS{s:St}(h:(s.row i).isSome=false):jK s E i=none:=by unfold jK;rw [h];rfl
def pO(s:St):Nat->Prop:=λr=>(s.map r).isSome=true
structure St.Bare(s:St)(n0:Nat):Prop where
 vars:s.vars=[]
 maps:∀r m,s.map r=some m->n0<=r/\∃a,m= .map a
 gs:s.gs=[]
 box:∀t cs,s.get t≠.box cs
section
variable {C:Cx}{P:Program}{s:St}{a:Act}{w w1 w':World}{G1:Pub}{E:Env}{rb:Nat->Option (Option (Nat×Nat))}{mp:Nat->Prop}{post post':Exit->Act->World->Prop}{df:List Deferred}{e:TypeId}{n m:Nat}{hs:Nat->Value}{D:Nat->List PD}{k:List KI}
end
def Cx.jZ(P:Program)(w:World)(G:Pub)(post:Exit->Act->World->Prop)(d:List Deferred)(fr:Nat->Bool)(r:Nat->Option (Option (Nat×Nat)))(vb:Nat->Option Nat)(m:Nat->Prop):Cx:=
 {P:=P,w0:=w,G0:=G,post:=post,mu:=λb=>(∃i p,r i=some (some p)/\p.1=b)\/m b\/∃t,vb t=some b,df:=d,vb0:=vb,fP:=λi=>if fr i=true then none else r i,old:=λi=>if fr i=true then(r i).bind (·.map (·.1))else none,dr:=false}
section
variable (P:Program)(w:World)(G:Pub)(post:Exit->Act->World->Prop)(df:List Deferred)(fr:Nat->Bool)(rb:Nat->Option (Option (Nat×Nat)))(vb:Nat->Option Nat)(mp:Nat->Prop)
def QD:(Cx.jZ P w G post df fr rb vb mp).P=P:=rfl
end
structure zA(C:Cx)(w:World)(G:Pub)(rb:Nat->Option (Option (Nat×Nat)))(vb:Nat->Option Nat)(mp:Nat->Prop):Prop where
 kept:Kept C.dr C.mu C.w0 w
 g0:∀b o,C.G0 b o->G b o
 g1:∀b o,G b o->C.G0 b o\/C.w0.heap.size<=b
 gw:∀b o,G b o->b<w.heap.size
 own:∀i p,rb i=some (some p)->C.w0.heap.size<=p.1/\p.1<w.heap.size/\∀o,¬G p.1 o
 var:∀t b,vb t=some b->C.w0.heap.size<=b/\b<w.heap.size/\∀o,¬G b o
 map:∀b,mp b->C.w0.heap.size<=b/\b<w.heap.size/\(∀o,¬G b o)/\∃x,w.heap[b]? =some x/\∀cs e d,x≠.cells cs e d
def kL(s:St)(E:Env):Nat->Option Nat:=λt=>if(s.var t).isSome=true then some (E.vb t)else none
def SX{s:St}(h:(s.var t).isSome=false):kL s E t=none:=by unfold kL;rw [h];rfl
def Dh{s:St}{cs:List SV}(h:s.var t=some cs):kL s E t=some (E.vb t):=by unfold kL;rw [h];rfl
structure St.Xf(s:St)(n0:Nat):Prop where
 maps:∀r m,s.map r=some m->n0<=r/\∃a,m= .map a
 gs:s.gs=[]
 box:∀t cs,s.get t≠.box cs
section
variable {C:Cx}{P:Program}{s:St}{a:Act}{w w1 w':World}{G1:Pub}{E:Env}{fr:Nat->Bool}{rb:Nat->Option (Option (Nat×Nat))}{vb:Nat->Option Nat}{mp:Nat->Prop}{post post':Exit->Act->World->Prop}{df:List Deferred}{e:TypeId}{n m:Nat}{hs:Nat->Value}{D:Nat->List PD}{k:List KI}
def St.me(s:St)(vb:Nat->Option Nat):Prop:=∀t,(s.var t).isSome=true->(vb t).isSome=true
def aB.QE(g:aB (Cx.jZ P w1 G1 post df fr rb vb mp) s a w E):aB (Cx.jZ P w1 G1 post' df fr rb vb mp) s a w E where
 kept:=g.kept
 defers:=g.defers
 size:=g.size
 g0:=g.g0
 g1:=g.g1
 gw:=g.gw
 tab:=g.tab
 slots:=g.slots
 aV:=g.aV
 vars:=g.vars
 rows:=g.rows
 maps:=λr m h=>by
  have:=g.maps r m h
  cases m<;>exact this
 boxes:=g.boxes
 vv:=g.vv
 rr:=g.rr
 vr:=g.vr
 bb:=g.bb
 bv:=g.bv
 br:=g.br
 aZ:=g.aZ
 bM:=g.bM
 bI:=g.bI
def zA.keeps(N:zA C w1 G1 rb vb mp)(g:aB (Cx.jZ P w1 G1 post df fr rb vb mp) s a w E):Keeps w1 G1 w E.G:=by
 have d:∀b o,G1 b o->w.heap[b]? =w1.heap[b]?:=λb o h=>g.kept.block b (N.gw b o h) (by
  rintro(⟨i,p,H,e⟩|H|⟨t,H⟩)
  ·exact(N.own i p H).2.2 o (e▸h)
  ·exact(N.map b H).2.2.1 o h
  ·exact(N.var t b H).2.2 o h)
 exact⟨g.g0,λb o h=>World.cell?_of_block (a:=⟨b,o,none⟩) (d b o h),λb o h=>d b o h⟩
structure SY(rb:Nat->Option (Option (Nat×Nat)))(vb:Nat->Option Nat)(m:Nat)(hs:Nat->Value):Prop where
 row:∀t i p,t<m->rb i=some (some p)->(hs t).ownBlock≠some p.1
 var:∀t u b,t<m->vb u=some b->(hs t).ownBlock≠some b
def zA.heads(N:zA C w1 G1 rb vb mp)(g:aB (Cx.jZ P w1 G1 post df fr rb vb mp) s a w E)(h:jJ e n w1 G1 m hs D)(d:SY rb vb m hs):jJ e n w E.G m hs D:=
 h.keep (λb q H=>g.kept.block b q (by
  obtain⟨t,j,H⟩:=H;rintro(⟨i,p,f,z⟩|f|⟨u,f⟩)
  ·exact d.row t i p j f (z▸H)
  ·obtain⟨X,k,_⟩:=(h.own t j).xs
   obtain⟨_,_,_,v,_⟩:=Aa k H;obtain⟨_,_,_,x,r,l⟩:=N.map b f;rw [v]at r;cases r;exact l _ _ _ rfl
  ·exact d.var t u b j f H)) (λb o k=>g.g1 b o k) (N.keeps g)
def vS{r:Row}{p:Option (Nat×Nat)}(H:s.row i=some r)(h:E.rb i=p):jK s E i=some p:=by
 unfold jK;rw [H];exact(af (by rfl:(some r).isSome=true)).trans (congrArg some h)
def Gq{p:Nat×Nat}(hi:jK s E i=some (some p)):∃r,s.row i=some r/\E.rb i=some p:=by
 unfold jK at hi
 split at hi
 ·rename_i h
  obtain⟨r,h⟩:=dm.1 h;exact⟨r,h,uu hi⟩
 ·cases hi
def yt(hi:kL s E t=some b):∃cs,s.var t=some cs/\E.vb t=b:=by
 unfold kL at hi
 split at hi
 ·rename_i h
  obtain⟨r,h⟩:=dm.1 h;exact⟨r,h,uu hi⟩
 ·cases hi
def zA.apart(N:zA C w1 G1 rb vb mp)(g:aB (Cx.jZ P w1 G1 post df fr rb vb mp) s a w E)(hV:s.me vb)(h:jJ e n w1 G1 m hs D)(hap:SY rb vb m hs):SY (jK s E) (kL s E) m hs where
 row:=by
  intro t i p ht hi hb;obtain⟨r,hr,hi⟩:=Gq hi
  have new:w1.heap.size<=p.1->False:=λh1=>by
   have h2:=(h.own t ht).lt hb;omega
  have was:∀q,rb i=some (some q)->q.1=p.1->False:=λq h1 h2=>hap.row t i q ht h1 (by rw [h2];exact hb)
  by_cases hf:fr i=true
  ·rcases g.bI i r p hr hi (af hf)with h1|h1
   ·exact new h1
   ·have h1:(if fr i=true then(rb i).bind (·.map (·.1))else none)=some p.1:=h1
    rw [af hf]at h1;obtain⟨x,hx,h1⟩:=pL.1 h1;obtain⟨q,rfl,h2⟩:=m6.1 h1;exact was q hx h2
  ·cases h0:rb i with
   |none=>
    have e0:(Cx.jZ P w1 G1 post df fr rb vb mp).fP i=none:=(ae hf).trans h0;rcases g.bI i r p hr hi e0 with h1|h1
    ·exact new h1
    ·have h1:(if fr i=true then(rb i).bind (·.map (·.1))else none)=some p.1:=h1
     rw [ae hf]at h1;cases h1
   |some q=>
    have h1:=g.bM i q ((ae hf).trans h0);rw [hi]at h1;exact was p (by rw [h0,h1]) rfl
 var:=by
  intro t u b ht hi hb;obtain⟨cs,hcs,rfl⟩:=yt hi;obtain⟨b',h0⟩:=dm.1 (hV u (by rw [hcs];rfl));have h1:=g.aZ u b' h0;exact hap.var t u b' ht h0 (by rw [<-h1];exact hb)
def zA.next(hdr:C.dr=false)(N:zA C w1 G1 rb vb mp)(g:aB (Cx.jZ P w1 G1 post df fr rb vb mp) s a w E)(hb:s.Xf C.w0.heap.size){row:Option Nat}(u:w.grownBy w' row)
  (G:∀b,row=some b->C.w0.heap.size<=b/\(∀o,¬E.G b o)/\(∀i p,jK s E i=some (some p)->p.1≠b)/\(∀t c,kL s E t=some c->c≠b)/\∀r,pO s r->r≠b):zA C w' E.G (jK s E) (kL s E) (pO s)/\Keeps w E.G w' E.G/\aB (Cx.jZ P w' E.G post df fr (jK s E) (kL s E) (pO s)) s a w' E:=by
 have MC:∀{b k T},Mine (Cx.jZ P w1 G1 post df fr rb vb mp) E.G w b k T->C.w0.heap.size<=b:=by
  rintro b k T ⟨H|⟨j,q,H,D⟩|H|⟨t,H⟩,_⟩
  ·exact bz N.kept.size H
  ·have:=(N.own j q H).1;omega
  ·exact(N.map b H).1
  ·exact(N.var t b H).1
 have JZ:∀i p,jK s E i=some (some p)->C.w0.heap.size<=p.1/\p.1<w.heap.size/\∀o,¬E.G p.1 o:=by
  intro i p z;obtain⟨r,X,z⟩:=Gq z;rcases g.rows i r X with⟨L,_⟩|⟨b,v,k,f,M,_⟩
  ·rw [L]at z;cases z
  ·rw [f]at z;cases z
   exact⟨MC M,M.lt,M.2.1⟩
 have Xg:∀t b,kL s E t=some b->C.w0.heap.size<=b/\b<w.heap.size/\∀o,¬E.G b o:=by
  intro t b z;obtain⟨n,hcs,rfl⟩:=yt z;obtain⟨k,T,M,_⟩:=g.vars t n hcs;exact⟨MC M,M.lt,M.2.1⟩
 have T8:∀r,pO s r->C.w0.heap.size<=r/\r<w.heap.size/\(∀o,¬E.G r o)/\∃x,w.heap[r]? =some x/\∀n e d,x≠.cells n e d:=by
  intro r l;obtain⟨m,O⟩:=dm.1 l;obtain⟨L,a',rfl⟩:=hb.maps r m O;have A:MapAt w E.G r a':=g.maps r _ O;exact⟨L,A.lt,A.1,by obtain⟨_,es,clock,f,_⟩:=A;exact⟨_,f,x6⟩⟩
 have J:Keeps w E.G w' E.G:=by
  have K:∀b o,E.G b o->w'.heap[b]? =w.heap[b]?:=λb o h=>u.block b (g.gw b o h) λe=>(G b e.symm).2.1 o h;exact⟨λ_ _ h=>h,λb o h=>World.cell?_of_block (a:=⟨b,o,none⟩) (K b o h),λb o h=>K b o h⟩
 have hs1:w1.heap.size<=w.heap.size:=g.kept.size;have U:=N.kept.size;have le:∀{b},b<w.heap.size->b<w'.heap.size:=λh=>cj h u.size
 refine⟨⟨⟨?_,?_,?_,?_,?_,λh=>yf⟩,λb o h=>g.g0 b o (N.g0 b o h),λb o h=>?_,λb o h=>le (g.gw b o h),λi p h=>⟨(JZ i p h).1,le (JZ i p h).2.1,(JZ i p h).2.2⟩,
  λt b h=>⟨(Xg t b h).1,le (Xg t b h).2.1,(Xg t b h).2.2⟩,
  λr l=>by obtain⟨f,H,D,x,h4,h5⟩:=T8 r l;exact⟨f,le H,D,x,(u.block r H λe=>(G r e.symm).2.2.2.2 r l rfl).trans h4,h5⟩⟩,J,?_⟩
 ·exact u.os.trans (g.kept.os.trans N.kept.os)
 ·exact u.tape.trans (g.kept.tape.trans N.kept.tape)
 ·exact u.output.trans (g.kept.output.trans N.kept.output)
 ·have:=u.size;omega
 ·intro b Z O
  refine(u.block b qk (λe=>by have:=(G b e.symm).1;omega)).trans ((g.kept.block b (show b<w1.heap.size by omega) ?_).trans (N.kept.block b Z O));rintro(⟨i,p,f,H⟩|f|⟨t,f⟩)
  ·have:=(N.own i p f).1
   omega
  ·have:=(N.map b f).1
   omega
  ·have:=(N.var t b f).1
   omega
 ·rcases g.g1 b o h with f|f
  ·exact N.g1 b o f
  ·exact .inr (bz U f)
 have hgs:∀t,s.dR t= .dead:=λt=>ul
 exact{
  kept:=Kept.refl _ _ _
  defers:=g.defers
  size:=g.size
  g0:=λ_ _ h=>h
  g1:=λ_ _ h=>.inl h
  gw:=λb o h=>le (g.gw b o h)
  tab:=g.tab.keep J
  slots:=λt=>(g.slots t).keep J rfl rfl
  aV:=λt=>by rw [hgs];trivial
  vars:=λt n h=>by
   obtain⟨k,T,M,hz,H⟩:=g.vars t n h;refine⟨k,T,⟨.inr (.inr (.inr ⟨t,Dh h⟩)),M.2.1,?_⟩,hz,λj Q=>⟨(H j Q).1,(H j Q).2.keep J rfl rfl⟩⟩;rw [u.block _ M.lt λe=>(G _ e.symm).2.2.2.1 t _ (Dh h) rfl];exact M.2.2
  rows:=λi r h=>by
   rcases g.rows i r h with L|⟨b,v,k,f,M,H,D,h4,h5,h6⟩
   ·exact .inl L
   ·refine .inr ⟨b,v,k,f,⟨.inr (.inl ⟨i,(b,v),vS h f,rfl⟩),M.2.1,?_⟩,H,D,h4,h5,λj q Q X=>(h6 j q Q X).keep J⟩
    rw [u.block b M.lt λe=>(G b e.symm).2.2.1 i (b,v) (vS h f) rfl];exact M.2.2
  maps:=λr M h=>by
   have l:pO s r:=by show(s.map r).isSome=true;rw [h];rfl
   obtain⟨_,a',rfl⟩:=hb.maps r M h;have A:MapAt w E.G r a':=g.maps r _ h;exact MapAt.keep J A.1 (u.block r A.lt λe=>(G r e.symm).2.2.2.2 r l rfl) A
  boxes:=λt n h=>(hb.box t n h).elim
  vv:=g.vv
  rr:=g.rr
  vr:=g.vr
  bb:=λt t' n cs' h=>(hb.box t n h).elim
  bv:=λt t' n cs' h=>(hb.box t n h).elim
  br:=λt n i r p h=>(hb.box t n h).elim
  aZ:=λt b h=>by
   obtain⟨_,_,h⟩:=yt (show kL s E t=some b from h);exact h
  bM:=λi p h=>by
   have h:(if fr i=true then none else jK s E i)=some p:=h
   split at h
   ·cases h
   ·unfold jK at h
    split at h
    ·simpa using h
    ·cases h
  bI:=λi r p h f H=>by
   have H:(if fr i=true then none else jK s E i)=none:=H;have D:=vS (E:=E) h f
   split at H
   ·rename_i hf
    right
    show(if fr i=true then(jK s E i).bind (·.map (·.1))else none)=some p.1;rw [af hf,D];rfl
   ·rw [D]at H;cases H}
def aB.ato(g:aB C s a w E)(N:C.dr=false)(u:∀b,¬C.mu b)(hb:s.Xf C.w0.heap.size):zA C w E.G (jK s E) (kL s E) (pO s)/\aB (Cx.jZ C.P w E.G post C.df fr (jK s E) (kL s E) (pO s)) s a w E:=by
 have q:∀t,s.dR t= .dead:=λt=>ul;have MC:∀{b d T},Mine C E.G w b d T->C.w0.heap.size<=b:=λM=>M.1.resolve_right (u _)
 refine⟨⟨g.kept,g.g0,g.g1,g.gw,λi p f=>?_,λt b f=>?_,λr o=>by
  obtain⟨m,D⟩:=dm.1 o;obtain⟨n,A,rfl⟩:=hb.maps r m D;have l:MapAt w E.G r A:=g.maps r _ D;exact⟨n,l.lt,l.1,by obtain⟨_,O,z,j,_⟩:=l;exact⟨_,j,x6⟩⟩⟩,?_⟩
 ·obtain⟨r,K,f⟩:=Gq f
  rcases g.rows i r K with⟨n,_⟩|⟨b,k,d,j,M,_⟩
  ·rw [n]at f;cases f
  ·rw [j]at f;cases f
   exact⟨MC M,M.lt,M.2.1⟩
 ·obtain⟨e,v,rfl⟩:=yt f
  obtain⟨d,T,M,_⟩:=g.vars t e v;exact⟨MC M,M.lt,M.2.1⟩
 exact{
  kept:=Kept.refl _ _ _
  defers:=g.defers
  size:=g.size
  g0:=λ_ _ h=>h
  g1:=λ_ _ h=>.inl h
  gw:=g.gw
  tab:=g.tab
  slots:=g.slots
  aV:=λt=>by rw [q];trivial
  vars:=λt e h=>by
   obtain⟨d,T,M,H⟩:=g.vars t e h;exact⟨d,T,⟨.inr (.inr (.inr ⟨t,Dh h⟩)),M.2⟩,H⟩
  rows:=λi r h=>by
   rcases g.rows i r h with n|⟨b,k,d,j,M,H⟩
   ·exact .inl n
   ·exact .inr ⟨b,k,d,j,⟨.inr (.inl ⟨i,(b,k),vS h j,rfl⟩),M.2⟩,H⟩
  maps:=λr M h=>by
   obtain⟨_,A,rfl⟩:=hb.maps r M h;have l:MapAt w E.G r A:=g.maps r _ h;exact l
  boxes:=λt e h=>(hb.box t e h).elim
  vv:=g.vv
  rr:=g.rr
  vr:=g.vr
  bb:=λt J e x h=>(hb.box t e h).elim
  bv:=λt J e x h=>(hb.box t e h).elim
  br:=λt e i r p h=>(hb.box t e h).elim
  aZ:=λt b h=>by
   obtain⟨_,_,h⟩:=yt (show kL s E t=some b from h);exact h
  bM:=λi p h=>by
   have h:(if fr i=true then none else jK s E i)=some p:=h
   split at h
   ·cases h
   ·unfold jK at h
    split at h
    ·simpa using h
    ·cases h
  bI:=λi r p h j H=>by
   have H:(if fr i=true then none else jK s E i)=none:=H;have G:=vS (E:=E) h j
   split at H
   ·rename_i L
    right
    show(if fr i=true then(jK s E i).bind (·.map (·.1))else none)=some p.1;rw [af L,G];rfl
   ·rw [G]at H;cases H}
def zA.back(hdr:C.dr=false)(k:C.vb0=λ_=>none)(hrb:C.fP=λ_=>none)(u:df=C.df)(G:P=C.P)(N:zA C w1 G1 rb vb mp)(g:aB (Cx.jZ P w1 G1 post df fr rb vb mp) s a w E)(hb:s.Xf C.w0.heap.size):aB C s a w E:=by
 subst u G;have q:∀t,s.dR t= .dead:=λt=>ul;have A:w1.heap.size<=w.heap.size:=g.kept.size;have l:=N.kept.size
 have M:∀b,(w1.heap.size<=b\/(∃i p,rb i=some (some p)/\p.1=b)\/mp b\/∃t,vb t=some b)->C.w0.heap.size<=b:=by
  rintro b (h|⟨i,p,H,f⟩|h|⟨t,h⟩)
  ·omega
  ·have:=(N.own i p H).1;omega
  ·exact(N.map b h).1
  ·exact(N.var t b h).1
 exact{
  kept:=⟨g.kept.os.trans N.kept.os,g.kept.tape.trans N.kept.tape,g.kept.output.trans N.kept.output,qk,λb n D=>by
   refine(g.kept.block b (show b<w1.heap.size by omega) ?_).trans (N.kept.block b n D);intro h;have:=M b (.inr h);omega,λh=>yf⟩
  defers:=g.defers
  size:=g.size
  g0:=λb o h=>g.g0 b o (N.g0 b o h)
  g1:=λb o h=>by
   rcases g.g1 b o h with H|H
   ·exact N.g1 b o H
   ·exact .inr (bz l H)
  gw:=g.gw
  tab:=g.tab
  slots:=g.slots
  aV:=λt=>by rw [q];trivial
  vars:=λt e h=>by
   obtain⟨d,T,m,f⟩:=g.vars t e h;exact⟨d,T,⟨.inl (M _ m.1),m.2⟩,f⟩
  rows:=λi r h=>by
   rcases g.rows i r h with v|⟨b,j,d,H,m,f⟩
   ·exact .inl v
   ·exact .inr ⟨b,j,d,H,⟨.inl (M b m.1),m.2⟩,f⟩
  maps:=λr m h=>by
   obtain⟨_,L,rfl⟩:=hb.maps r m h;have J:MapAt w E.G r L:=g.maps r _ h;exact J
  boxes:=λt e h=>(hb.box t e h).elim
  vv:=g.vv
  rr:=g.rr
  vr:=g.vr
  bb:=λt z e x h=>(hb.box t e h).elim
  bv:=λt z e x h=>(hb.box t e h).elim
  br:=λt e i r p h=>(hb.box t e h).elim
  aZ:=λt b h=>by rw [k]at h;cases h
  bM:=λi p h=>by rw [hrb]at h;cases h
  bI:=λi r p h H f=>by
   rcases g.rows i r h with⟨v,_⟩|⟨b,j,d,K,m,_⟩
   ·rw [v]at H;cases H
   ·rw [K]at H;cases H
    exact .inl (M _ m.1)}
def R.S9{all:Array Oper}{l:List Oper}{o:Oper}{x y:Operand}{d:Nat}{T:PD}{G:TypeInfo}{z:Value}{bytes:Nat}(hdr:C.dr=false)(N:zA C w1 G1 rb vb mp)(H:jJ e C.w0.heap.size w1 G1 m hs D)(A:SY rb vb m hs)(hV:s.me vb)(hbk:lW k=true)(hb:s.Xf C.w0.heap.size)
  (ho:o.op= .call ⟨.builtin .append,#[x,y],#[t,t]⟩)(hg:o.guard=none)(hd:o.dst=some d)(hn:d<s.n)(M:j<m)(hx:aO s x= .pd (.raw (hs j)))(hy:aO s y= .pd (.list 1 [T]))(hwd:T.width=1)
  (hu:P.underlying t=some (.slice e))(hi:P.info? e=some G)(hz:G.zero=some z)(hsz:G.size=1)(hby:G.bytes=bytes)(hzs:z.cells.size=1)(hm:(D j).length+1<=maxLen)(hbt:((D j).length+1)*bytes<=140737488355328)
  (next:∀w2 G2 vT jv xq L,zA C w2 G2 vT jv xq->jJ e C.w0.heap.size w2 G2 m (uT hs j L) (uT D j (D j++[T]))->SY vT jv m (uT hs j L)->(∀i,(s.row i).isSome=false->vT i=none)->(∀t,(s.var t).isSome=true->(jv t).isSome=true)->(∀t,(s.var t).isSome=false->jv t=none)->(∀r,pO s r->xq r)->R (Cx.jZ P w2 G2 post df fr vT jv xq) (.ops all l::k) (s.set d (.pd (.raw L)))):
  R (Cx.jZ P w1 G1 post df fr rb vb mp) (.ops all (o::l)::k) s:=by
 intro a w E g;have X:=N.heads g H A;have Z:=N.apart g hV H A;have hv:a.eval x=hs j:=by have:=aT g x;rw [hx]at this;exact aH.aC this
 have hyv:=aT g y;rw [hy]at hyv;obtain⟨xs,K,hrd⟩:=(X.own j M).xs;rcases BO g (x:=.pd (.list 1 [T])) (es:=[T]) rfl hyv (sz:=1) (λi hi=>by simp at hi;subst hi;simpa using hwd)with⟨_,h0⟩|⟨b2,off,c,news,hy1,hnl,hnc,hn1,hnr⟩
 ·cases h0
 obtain⟨u,rfl⟩:∃u,news=[u]:=cz.1 (uu hnl);have hu1:u.oneCell'=true:=hn1 u qr;have hur:Rd w E.G u (T.cell 0):=uu (hnr 0 0 qr qu);refine Go.Proofs.Z.xU hg x y t ho e G z 1 bytes hu hi hz hsz hby hzs qu (hs j) (D j).length xs hv K ⟨b2,off,none⟩ 1 c [u] hy1 qr hnc (λv hv=>hn1 v hv) hm hbt ?_;intro L U J Q q
 have hrow:∀b,(hs j).ownBlock=some b->C.w0.heap.size<=b/\(∀o,¬E.G b o)/\(∀i p,jK s E i=some (some p)->p.1≠b)/\(∀t c,kL s E t=some c->c≠b)/\∀r,pO s r->r≠b:=λb f=>
  ⟨((X.own j M).low b f).1,((X.own j M).low b f).2,λi p n O=>Z.row j i p M n (O▸f),λt c n O=>Z.var j t c M n (O▸f),λr hr' e=>by
   subst e;obtain⟨m0,hm⟩:=dm.1 hr';obtain⟨_,a',rfl⟩:=hb.maps r m0 hm;obtain⟨_,es,clock,n,_⟩:MapAt w E.G r a':=g.maps r _ hm;obtain⟨_,ho,_⟩:=(X.own j M).xs;obtain⟨_,_,_,hc,_⟩:=Aa ho f;rw [hc]at n;cases n⟩
 obtain⟨N2,hk2,g2⟩:=N.next hdr g hb Q hrow;have hs1:w1.heap.size<=w.heap.size:=g.kept.size
 have H2:Head e C.w0.heap.size U E.G L (D j++[T]):=(X.own j M).more (xs:=xs++[u]) (x:=u) (λzo ho0 _=>by
  have:zo=xs:=by
   rcases ho0.2 with⟨e1,n⟩|⟨g1,cap,cur,e1,_,hg1,_,_,_,ht1⟩
   ·have O:=ho0.1;have h3:=K.1
    rw [n]at O h3;simp at O h3;rw [O,h3]
   ·rcases K.2 with⟨e2,_⟩|⟨g2,cap2,Py,e2,_,hg2,_,_,_,ht2⟩
    ·rw [e1]at e2;cases e2
    ·rw [e1]at e2;cases e2
     rw [hg1]at hg2;cases hg2;rw [<-ht1,<-ht2]
  rw [this]) J hk2 hu1 hur hwd Q.size q (bz N.kept.size hs1) g.gw
 have H3:=X.step M Q H2 q hk2
 have hA3:SY (jK s E) (kL s E) m (uT hs j L):=by
  refine⟨λt i p ht hi f=>?_,λt u b ht hi f=>?_⟩
  ·by_cases c:t=j
   ·subst c
    rw [nI]at f;rcases q with n|n
    ·rw [n]at f;exact Z.row t i p ht hi f
    ·rw [n]at f
     obtain⟨r,hq,hi⟩:=Gq hi;have O:=g.ku hq hi;simp only [bo]at f;omega
   ·rw [jc c]at f
    exact Z.row t i p ht hi f
  ·by_cases c:t=j
   ·subst c
    rw [nI]at f;rcases q with n|n
    ·rw [n]at f;exact Z.var t u b ht hi f
    ·rw [n]at f
     obtain⟨cs,hq,hi⟩:=yt hi;obtain⟨_,_,m0,_⟩:=g.vars u cs hq;have:=m0.lt;simp only [bo]at f;omega
   ·rw [jc c]at f
    exact Z.var t u b ht hi f
 have hR:=next U E.G (jK s E) (kL s E) (pO s) L N2 H3 hA3 (λi h=>SS h) (λt h=>by unfold kL;rw [af h];rfl) (λt h=>SX h) (λ_ h=>h)
 have g3:aB (Cx.jZ P U E.G post df fr (jK s E) (kL s E) (pO s)) (s.set d (.pd (.raw L))) (a.put o.dst L) U E:=by
  rw [hd]
  exact g2.put hn (Rd.raw _ (by
   rcases J.2 with⟨rfl,_⟩|⟨_,_,_,rfl,_⟩<;>rfl)) qr
 have:=hR _ _ _ g3;have hf:fin (Cx.jZ P U E.G post df fr (jK s E) (kL s E) (pO s)) k=fin (Cx.jZ P w1 G1 post df fr rb vb mp) k:=jg (C:=Cx.jZ P w1 G1 post df fr rb vb mp) (C2:=Cx.jZ P U E.G post df fr (jK s E) (kL s E) (pO s)) rfl rfl k hbk;show wpList P all (fin (Cx.jZ P w1 G1 post df fr rb vb mp) k) l _ _;rw [<-hf];exact this
structure Beside(C:Cx)(e:TypeId)(m:Nat)(ids vs:List Nat)(mr:Nat)(hs:Nat->Value)(D:Nat->List PD)(w:World)(G:Pub)(rb:Nat->Option (Option (Nat×Nat)))(vb:Nat->Option Nat)(mp:Nat->Prop):Prop where
 N:zA C w G rb vb mp
 H:jJ e C.w0.heap.size w G m hs D
 A:SY rb vb m hs
 r:∀i,ids.contains i=false->rb i=none
 v:∀t,vs.contains t=true->(vb t).isSome=true
 u:∀t,vs.contains t=false->vb t=none
 p:mp mr
def R.O2{c:Code}{ι:Type}(S:ι->(Nat->Value)->St)(D:ι->Nat->List PD)(Inv:ι->(Nat->Value)->Prop)(μ:ι->Nat)(f:ι)(q:Inv f hs)(B:Beside C e m ids vs mr hs (D f) w1 G1 rb vb mp)(H:s=S f hs)(u:lW k=true)
  (r:∀i hs w1 G1 rb vb mp,Inv i hs->Beside C e m ids vs mr hs (D i) w1 G1 rb vb mp->
   ∀Q:Exit->Act->World->Prop,
   (∀j h b G v jv x,Inv j h->μ j<μ i->Beside C e m ids vs mr h (D j) b G v jv x->R (Cx.jZ P b G Q df fr v jv x) [] (S j h))->
   (∀id K,jS id k=some K->∀o b G v jv x,R (Cx.jZ P b G post df fr v jv x) K o->∀a w E,aB (Cx.jZ P b G Q df fr v jv x) o a w E->Q (.exit id) a w)->
   R (Cx.jZ P w1 G1 Q df fr rb vb mp) [.code c] (S i hs)):R (Cx.jZ P w1 G1 post df fr rb vb mp) (.code (.loop c)::k) s:=by
 subst H
 let I:Nat->Act->World->Prop:=λn a w=>∃i hs w1 G1 rb vb mp E,μ i=n/\Inv i hs/\Beside C e m ids vs mr hs (D i) w1 G1 rb vb mp/\aB (Cx.jZ P w1 G1 post df fr rb vb mp) (S i hs) a w E
 refine R.loopS I (μ f) (λa w E g=>⟨f,hs,w1,G1,rb,vb,mp,E,rfl,q,B,g⟩) ?_;rintro n a w ⟨i,hs,l,J,p,dn,M,E,rfl,Z,B,g⟩;have T:∀b G v jv x,fin (Cx.jZ P b G post df fr v jv x) k=fin (Cx.jZ P w1 G1 post df fr rb vb mp) k:=λb G v jv x=>jg (C:=Cx.jZ P w1 G1 post df fr rb vb mp) (C2:=Cx.jZ P b G post df fr v jv x) rfl rfl k u;refine(r i hs l J p dn M Z B (Exit.then (λA d=>∃N,N<μ i/\I N A d) (fin (Cx.jZ P w1 G1 post df fr rb vb mp) k)) ?_ ?_) a w E g.QE
 ·intro j h b G v jv x O t B2 A d L z
  exact⟨μ j,t,j,h,b,G,v,jv,x,L,rfl,O,B2,z.QE⟩
 ·intro id K U o b G v jv x X A d L z
  show fin (Cx.jZ P w1 G1 post df fr rb vb mp) k (.exit id) A d;rw [<-T b G v jv x];exact qL U A d (X A d L z.QE)
def R.aqO(m:Nat)(e:TypeId)(fr:Nat->Bool)(r:C.dr=false)(H:∀b,¬C.mu b)(j:s.Xf C.w0.heap.size)(d:lW k=true)(p:∀i,ids.contains i=false->(s.row i).isSome=false)(o:∀t,vs.contains t=true->(s.var t).isSome=true)(l:∀t,vs.contains t=false->(s.var t).isSome=false)(n:pO s mr)
  (next:∀w G f vb M,Beside C e m ids vs mr (λ_=>.slice none 0 0) (λ_=>[]) w G f vb M->R (Cx.jZ C.P w G C.post C.df fr f vb M) k s):R C k s:=by
 intro a w E g;obtain⟨N,q⟩:=g.ato (post:=C.post) (fr:=fr) r H j;have:=next w E.G (jK s E) (kL s E) (pO s) ⟨N,⟨λ_ _=>Head.nil,λ_ _ _ _ _ _ h=>xa⟩,⟨λ_ _ _ _ _ h=>xa,λ_ _ _ _ _ h=>xa⟩,λi h=>SS (p i h),λt h=>by unfold kL;rw [af (o t h)];rfl,λt h=>SX (l t h),n⟩ a w E q
 rwa [jg (C:=C) (C2:=Cx.jZ C.P w E.G C.post C.df fr (jK s E) (kL s E) (pO s)) rfl rfl k d]at this
def R.TC{u:Nat}{e2:TypeId}(hu:u<=m)(hdr:C.dr=false)(hvb:C.vb0=λ_=>none)(hrb:C.fP=λ_=>none)(N:zA C w1 G1 rb vb mp)(H:jJ e C.w0.heap.size w1 G1 m hs D)(A:SY rb vb m hs)(hV:s.me vb)(hb:s.Xf C.w0.heap.size)(hbk:lW k=true)
  (hr:s.row i=some ⟨e2,1,(aw u).map λt=>.raw (hs t)⟩)(next:R C k (s.setRow i ⟨e2,1,(aw u).map λt=>.list 1 (D t)⟩)):R (Cx.jZ C.P w1 G1 C.post C.df fr rb vb mp) k s:=by
 intro a w E g;have H1:=N.heads g H A;have A1:=N.apart g hV H A;have l:=N.back hdr hvb hrb rfl rfl g hb;rw [jg (C:=C) (C2:=Cx.jZ C.P w1 G1 C.post C.df fr rb vb mp) rfl rfl k hbk];have hk:Keeps w E.G w (jJ.pub E.G m hs):=⟨λ_ _ h=>.inl h,λ_ _ _=>rfl,λ_ _ _=>rfl⟩;have hgs:∀t,s.dR t= .dead:=λt=>ul
 have Q:∀j f,(s.setRow i ⟨e2,1,(aw u).map λt=>.list 1 (D t)⟩).row j=some f->(j=i/\f=⟨e2,1,(aw u).map λt=>.list 1 (D t)⟩)\/(j≠i/\s.row j=some f):=by
  intro j f h;simp only [St.row,St.setRow,jR]at h
  split at h
  ·exact .inl ⟨kf,(gm h).symm⟩
  ·exact .inr ⟨kf,h⟩
 have hex:∀j f,(s.setRow i ⟨e2,1,(aw u).map λt=>.list 1 (D t)⟩).row j=some f->∃X,s.row j=some X/\X.sz=f.sz/\X.ds.length=f.ds.length:=by
  intro j f h;rcases Q j f h with⟨rfl,rfl⟩|⟨_,h⟩
  ·exact⟨_,hr,rfl,qr⟩
  ·exact⟨f,h,rfl,rfl⟩
 have U:∀v x,Rel C.P w E s.row v x->Rel C.P w {E with G:=jJ.pub E.G m hs} (s.setRow i ⟨e2,1,(aw u).map λt=>.list 1 (D t)⟩).row v x:=λv x h=>(h.keep (E':={E with G:=jJ.pub E.G m hs}) hk rfl rfl).rowLen hex
 have mo:∀{j r b L d T},s.row j=some r->E.rb j=some (b,L)->Mine C E.G w b d T->Mine C (jJ.pub E.G m hs) w b d T:=λ{j r b L d T} J P M=>⟨M.1,λo z=>by
  rcases z with z|⟨t,Z,z⟩
  ·exact M.2.1 o z
  ·exact A1.row t j (b,L) Z (vS J P) z,M.2.2⟩
 have mv:∀{t K d T},s.var t=some K->Mine C E.G w (E.vb t) d T->Mine C (jJ.pub E.G m hs) w (E.vb t) d T:=λ{t K d T} J M=>⟨M.1,λo z=>by
  rcases z with z|⟨q,n,z⟩
  ·exact M.2.1 o z
  ·exact A1.var q t _ n (Dh J) z,M.2.2⟩
 refine next a w {E with G:=jJ.pub E.G m hs} ?_
 have O:∀j f,(s.setRow i ⟨e2,1,(aw u).map λt=>.list 1 (D t)⟩).row j=some f->∃X,s.row j=some X:=λj f h=>by obtain⟨X,h0,_⟩:=hex j f h;exact⟨X,h0⟩
 exact{
  kept:=l.kept
  defers:=l.defers
  size:=l.size
  g0:=λb o h=>.inl (l.g0 b o h)
  g1:=λb o h=>by
   rcases h with h|⟨t,Z,h⟩
   ·exact l.g1 b o h
   ·exact .inr ((H1.own t Z).low b h).1
  gw:=λb o h=>by
   rcases h with h|⟨t,Z,h⟩
   ·exact l.gw b o h
   ·exact(H1.own t Z).lt h
  tab:=l.tab.keep hk
  slots:=λt=>U _ _ (l.slots t)
  aV:=λt=>by
   show Rel _ _ _ _ _ (s.dR t);rw [hgs];trivial
  vars:=λt K h=>by
   have h:s.var t=some K:=h;obtain⟨d,T,M,hz,P⟩:=l.vars t K h;exact⟨d,T,mv h M,hz,λj hj=>⟨(P j hj).1,U _ _ (P j hj).2⟩⟩
  rows:=λj f h=>by
   rcases Q j f h with⟨rfl,rfl⟩|⟨_,h⟩
   ·rcases l.rows j _ hr with⟨J,P⟩|⟨b,L,d,J,M,P,h3,h4,h5,h6⟩
    ·refine .inl ⟨J,?_⟩
     have:(aw u).length=0:=by have:=congrArg List.length P;simpa using this
     simp at this;subst this;rfl
    ·refine .inr ⟨b,L,d,J,mo hr J M,P,uu h3,h4,λq n=>?_,λq v n hv=>?_⟩
     ·simp only [al,gO]at n
      simp [n,PD.width]
     ·simp only [al,gO]at n
      have hx:=h6 q v (uu n) hv;obtain rfl:v=0:=by simp only at hv;omega
      have e1:((aw u).map λt=>PD.raw (hs t)).getD q (.ak [])= .raw (hs q):=by simp [n]
      have e3:((aw u).map λt=>PD.list 1 (D t)).getD q (.ak [])= .list 1 (D q):=by simp [n]
      simp only [e1]at hx;simp only [e3];have hx:d.getD (q*1+0) undef=hs q:=aH.aC hx;rw [hx];exact H1.reads q qk
   ·rcases l.rows j f h with h0|⟨b,L,d,J,M,P,h3,h4,h5,h6⟩
    ·exact .inl h0
    ·exact .inr ⟨b,L,d,J,mo h J M,P,h3,h4,h5,λq u n hu=>(h6 q u n hu).keep hk⟩
  maps:=λr M h=>by
   have h:s.map r=some M:=h;obtain⟨_,a',rfl⟩:=hb.maps r M h;have hM:MapAt w E.G r a':=l.maps r _ h
   exact MapAt.keep hk (λo z=>by
    rcases z with z|⟨t,Z,z⟩
    ·exact hM.1 o z
    ·obtain⟨_,es,clock,J,_⟩:=hM
     obtain⟨_,ho',_⟩:=(H1.own t Z).xs;obtain⟨_,_,_,hc,_⟩:=Aa ho' z;rw [hc]at J;cases J) rfl hM
  boxes:=λt K h=>(hb.box t K h).elim
  vv:=l.vv
  rr:=λj j' r f p h h' hp p' hp' e=>by
   obtain⟨q,n⟩:=O j r h;obtain⟨q',hq'⟩:=O j' f h';exact l.rr j j' q q' p n hq' hp p' hp' e
  vr:=λt K i r p h hi hp=>by
   obtain⟨q,n⟩:=O i r hi;exact l.vr t K i q p h n hp
  bb:=λt t' K cs' h=>(hb.box t K h).elim
  bv:=λt t' K cs' h=>(hb.box t K h).elim
  br:=λt K i r p h=>(hb.box t K h).elim
  aZ:=l.aZ
  bM:=l.bM
  bI:=λj r p h J P=>by
   obtain⟨q,n⟩:=O j r h;exact l.bI j q p n J P}
end
end Go.au
namespace Go.Proofs.YtgeljjfmcmbejaaGreatDoor
open Go.Proofs.Z
open Go.au
variable {n k j base:Nat}{L:LL}{u u':List Int}{P:List (Nat×Nat)}{hs:Nat->Value}
def Ur:List (Nat×SV)->Bool
 | []=>true
 |(_,.box _)::_=>false
 |_::l=>Ur l
def Xh{t:Nat}{cs:List Value}:∀{l:List (Nat×SV)},Ur l=true->lk t l≠some (.box cs)
 | [],_=>jx
 |(i,x)::l,h=>by
  have H:Ur l=true:=by cases x<;>first|exact h|cases h
  simp only [lk]
  split
  ·intro e
   cases e
   cases h
  ·exact Xh H
def Kr{s:St}{n0 m:Nat}{a:jo}(h2:s.maps=[(m,.map a)])(h3:s.gs=[])(h4:Ur s.slots=true)(hm:n0<=m):s.Xf n0 where
 maps:=λr x h=>by
  rw [St.map,h2]at h;simp only [lk]at h
  split at h
  ·rename_i e;subst e;cases h;exact⟨hm,_,rfl⟩
  ·cases h
 gs:=h3
 box:=λt cs h=>by
  unfold St.get at h
  cases e:lk t s.slots with
  |none=>rw [e]at h;cases h
  |some x=>
   rw [e]at h;have h:x= .box cs:=h;exact Xh (t:=t) (cs:=cs) h4 (by rw [e,h])
def MZ{s:St}{t0:Nat}{cs:List SV}{vb:Nat->Option Nat}(h:s.vars=[(t0,cs)])(v:∀t,[t0].contains t=true->(vb t).isSome=true):s.me vb:=λt H=>by
 rw [St.var,h]at H;simp only [lk]at H
 split at H
 ·rename_i e;subst e;exact v t0 qr
 ·cases H
def BJ(n k:Nat):List Int:=(aw n).map λj=>if j<k then(j:Int)else 0
def Kn(n:Nat):List.replicate n (I 0)=(BJ n 0).map I:=by
 apply cJ
 ·simp [BJ]
 ·intro i H h;simp [BJ]
def MT:(BJ n k).set k (k:Int)=BJ n (k+1):=by
 apply cJ
 ·simp [BJ]
 ·intro i H h
  simp only [BJ,nm,ei,r5]
  by_cases c:k=i
  ·subst c;rw [af rfl,af qk]
  ·rw [ae c]
   by_cases d:i<k
   ·rw [af d,af qk]
   ·rw [ae d,ae qk]
def Et(n k:Nat):(BJ n k).length=n:=by simp [BJ]
def TE(n:Nat):xk n (BJ n n) where
 len:=Et n n
 le:=λi hi=>by
  have:(BJ n n).getD i 0=i:=by simp [BJ,ag,hi]
  rw [this];omega
abbrev Xi(n:Nat)(hs:Nat->Value):Row:=⟨35,1,(aw n).map λt=>.raw (hs t)⟩
def Xj(f:Nat->Value)(v:Value)(h:j<n):((aw n).map λt=>PD.raw (f t)).set j (.raw v)=(aw n).map λt=>PD.raw (uT f j v t):=by
 apply cJ
 ·simp
 ·intro i a H
  simp only [ei,nm,r5]
  by_cases c:j=i
  ·subst c;rw [af rfl,nI]
  ·rw [ae c,jc (λe=>c e.symm)]
def HA{f:Nat->Value}(h:f n= .slice none 0 0):((aw n).map λt=>PD.raw (f t))++[.raw (.slice none 0 0)]=(aw (n+1)).map λt=>PD.raw (f t):=by
 rw [fz,bl];simp [h]
abbrev Js(P:List (Nat×Nat)):jo:=P.map λp=>(.int .i64 p.1,.raw (.int .i64 p.2))
structure CI(n k:Nat)(u:List Int)(P:List (Nat×Nat))(L:LL)(hs:Nat->Value):Prop where
 hk:k<=n
 up:xk n u
 nd:(P.map (·.1)).Nodup
 key:∀p∈P,p.1<k/\p.2<L.length
 len:L.length<=k
 ne:∀c∈L,c≠[]
 rng:∀y∈L.flatten,0<=y/\y.toNat<k
 fl:L.flatten.Nodup
 nil:∀t,L.length<=t->hs t= .slice none 0 0
def DL(L:LL)(t:Nat):List PD:=(L.getD t []).map I
def TH(h:j<L.length):DL (L.set j (L.getD j []++[(k:Int)]))=uT (DL L) j (DL L j++[I k]):=by
 funext t
 unfold DL
 by_cases c:t=j
 ·subst c;rw [nI];simp [ag,h]
 ·rw [jc c];simp [ag,g8 (bt c)]
def TO:DL (L++[[(k:Int)]])=uT (DL L) L.length (DL L L.length++[I k]):=by
 funext t
 unfold DL
 by_cases c:t=L.length
 ·subst c;rw [nI];simp [ag]
 ·rw [jc c]
  congr 1
  simp only [ag]
  by_cases d:t<L.length
  ·rw [cv d]
  ·rw [dl qz,dl qk]
def Ll{x:Int}(hj:j<L.length):(L.set j (L.getD j []++[x])).flatten.Perm (x::L.flatten):=by
 have E:L.getD j []=L[j]:=j5
 have e:L.flatten=(L.take j).flatten++(L[j]++(L.drop (j+1)).flatten):=by
  rw [<-fj,<-eC,<-ij hj,cK]
 rw [AN,af hj,E,e];simp only [eC,fj,cD];refine(gD _ ?_).trans lB;exact lB
def CI.old(h:CI n k u P L hs)(hu:xk n u')(hk:k<n)(hj:j<L.length)(v:Value):CI n (k+1) u' P (L.set j (L.getD j []++[(k:Int)])) (uT hs j v) where
 hk:=hk
 up:=hu
 nd:=h.nd
 key:=λp hp=>⟨by have:=(h.key p hp).1;omega,by rw [cc];exact(h.key p hp).2⟩
 len:=by rw [cc];exact pP h.len
 ne:=λc hc=>by
  rcases k4 hc with hc|rfl
  ·exact h.ne c hc
  ·simp
 rng:=λy hy=>by
  rcases b8.1 ((Ll hj).mem_iff.1 hy)with rfl|hy
  ·omega
  ·have:=h.rng y hy;omega
 fl:=by
  rw [(Ll hj).nodup_iff];refine dE.2 ⟨λhm=>?_,h.fl⟩;have:=h.rng _ hm;omega
 nil:=λt ht=>by
  rw [cc]at ht;rw [jc qk];exact h.nil t ht
def CI.new(h:CI n k u P L hs)(hu:xk n u')(hk:k<n)(v:Value):CI n (k+1) u' (P++[(k,L.length)]) (L++[[(k:Int)]]) (uT hs L.length v) where
 hk:=hk
 up:=hu
 nd:=by
  rw [bl];refine dq.2 ⟨h.nd,qr,λa ha b hb=>?_⟩;rintro rfl;obtain⟨p,hp,rfl⟩:=aq.1 ha;have:=(h.key p hp).1;simp at hb;omega
 key:=λp hp=>by
  rw [bd];rcases cw.1 hp with hp|hp
  ·have:=h.key p hp;simp only [an,a9];omega
  ·rw [bp.1 hp];simp
 len:=by have:=h.len;rw [bd];simp only [an,a9];omega
 ne:=λc hc=>by
  rcases cw.1 hc with hc|hc
  ·exact h.ne c hc
  ·rw [bp.1 hc];simp
 rng:=λy hy=>by
  rw [eC]at hy;rcases cw.1 hy with hy|hy
  ·have:=h.rng y hy;omega
  ·simp at hy;omega
 fl:=by
  rw [eC];refine dq.2 ⟨h.fl,qr,λa ha b hb=>?_⟩;rintro rfl;have:=h.rng a ha;simp at hb;omega
 nil:=λt ht=>by
  rw [bd]at ht;simp only [an,a9]at ht;rw [jc qk];exact h.nil t qk
def CI.lst{s:Nat->Value}(h:CI n k u P L s)(j:Nat):(DL L j).length<=n:=by
 unfold DL;rw [al]
 by_cases hj:j<L.length
 ·have e:L.getD j []=L[j]:=j5
  rw [e];have H:L[j].Sublist L.flatten:=List.sublist_flatten_of_mem (am hj);have:=kY k L[j] (h.fl.sublist H) λx a=>h.rng x (H.subset a);have:=h.hk;omega
 ·simp [ag,dl (fw hj)]
def HB(L:LL):((aw L.length).map λt=>PD.list 1 (DL L t))=L.map ints:=by
 apply cJ
 ·simp
 ·intro i a H
  have h:i<L.length:=uu H;simp [DL,h,ints]
def S7(n m:Nat)(x:Nat×List Int×List (Nat×Nat) ×LL)(h:Nat->Value):St:=⟨101,[(5,.clo 303 [3]),(12,.own 1012),(13,.pd (.raw (.map (some m)))),(67,.pd (I n)),(68,.pd (I x.1))],[(3,[.own 1022])],[(1022,cO x.2.1),(1012,Xi x.2.2.2.length h)],[(m,.map (Js x.2.2.1))],[]⟩
def GV(g:Gr)(hO:RN g)(hV:bg aa 28 [.pd (pY g)] [B true]):bJ aa 192 [] [] [.pd (pY g)] [] [] (J5 g):=by
 have hn:=hO.n;have hE:=hO.m;obtain⟨i0,hi1,hz,hsz,hby⟩:=info_parts Wu;refine bJ.mk Tryz.func192 λw G rb=>?_;refine ac ?_;refine R.kW (hV) rfl rfl zd ?_;refine ac ?_;refine ac ?_;refine R.Ef (d:=22) 1022 rfl rfl rfl rfl qn rfl rfl sl35 Wu rfl rfl qk wv ?_;refine ac ?_;rw [Kn];refine R.fU (λ(k:Nat) s=>St.lp [1,2,3,24] [(25,.pd (I k))] [1,3] [] [] [(1022,cO (BJ g.n k))] s) (λ(k:Nat)=>k<=g.n) (λ(k:Nat)=>g.n-k) (0) qk ?_;intro k N;refine ac ?_;refine⟨λh=>?_,λh=>?_⟩
 ·have hlt:k<g.n:=by simpa [Et]using h
  apply ev8;simp only [go_sem,al,Et];repeat refine⟨qk,?_⟩
  apply ev8;simp only [go_sem,Jr (show k<(BJ g.n k).length by rw [Et];exact hlt),Rk,Rj,MT,wrapN (k:=k) qk];refine R.fE (k+1) qk (l:=xl)
 have hke:k=g.n:=by have:¬k<g.n:=by simpa [Et]using h
                    omega
 subst hke;have hu0:=TE g.n;generalize BJ g.n g.n=u0 at hu0⊢;refine ac ?_;refine R.fU (λ(p:Nat×List Int) s=>St.lp [1,2,3,5,35,36] [(37,.pd (I p.1))] [1,3] [] [] [(1022,cO p.2)] s) (λ(p:Nat×List Int)=>p.1<=g.edges.length/\xk g.n p.2) (λ(p:Nat×List Int)=>g.edges.length-p.1) ((0,u0)) (⟨db _,hu0⟩) ?_;rintro⟨k,u⟩ ⟨N,M⟩;simp only at N M⊢;clear hu0
 by_cases hlt:k<g.edges.length
 ·have U:decide ((k:Int)<(g.edges.length:Int))=true:=qz
  obtain⟨E,hnd,hlE,FX⟩:=hO.e k hlt;have e1:g.edges[k]=g.edges.getD k []:=yo;generalize hl:g.edges.getD k []=l at*
  refine z9 U hlt e1 ?_;refine R.fU (λ(p:Nat×List Int) s=>St.lp [1,2,3,5,7,35,36,37,41,42] [(43,.pd (I p.1))] [1,3] [] [] [(1022,cO p.2)] s) (λ(p:Nat×List Int)=>p.1<=l.length/\xk g.n p.2) (λ(p:Nat×List Int)=>l.length-p.1) ((0,u)) (⟨db _,M⟩) ?_;rintro⟨j,u⟩ ⟨hj,M⟩;simp only at hj M⊢
  by_cases T:j<l.length
  ·have f2:decide ((j:Int)<(l.length:Int))=true:=qz
   have h0:0<l.length:=qk;obtain⟨ha0,han⟩:=FX l[0] (am h0);obtain⟨hb0,hbn⟩:=FX l[j] (am T);have hac:((l[0].toNat:Nat):Int)=l[0]:=iz ha0;have hbc:((l[j].toNat:Nat):Int)=l[j]:=iz hb0;generalize l[0].toNat=a at han hac;generalize l[j].toNat=b at hbn hbc;apply aj;simp only [go_sem,↓reduceIte,f2,Int.toNat_zero,getD_map,T,h0,<-hac,<-hbc];repeat refine⟨qk,?_⟩
   refine R.cX [(3,[.own 1022])] [(1022,cO u)] [] [1022] rfl rfl rfl (λvb hvb=>Xd (vb 3) g.n u a han M) rfl zr Pj ?_;rintro Z-dn res ys O rows ⟨K,u1,hu1,hr1,rfl,rfl,rfl,rfl⟩;refine⟨rfl,rfl,⟨⟨_,_,rfl,rfl,by simp [hu1.len,M.len],rfl⟩,trivial⟩,?_⟩;refine ar ?_;refine R.cX [(3,[.own 1022])] [(1022,cO u1)] [] [1022] rfl rfl rfl (λvb hvb=>Xd (vb 3) g.n u1 b hbn hu1) rfl zr Pj ?_;rintro jv-dn res ys O rows ⟨D,u2,hu2,hr2,rfl,rfl,rfl,rfl⟩;refine⟨rfl,rfl,⟨⟨_,_,rfl,rfl,by simp [hu2.len,hu1.len],rfl⟩,trivial⟩,?_⟩;have hmx:(if(D:Int)>(K:Int)then(D:Int)else(K:Int))=((max K D:Nat):Int):=by split<;>omega
   have hmn:(if(D:Int)<(K:Int)then(D:Int)else(K:Int))=((min K D:Nat):Int):=by split<;>omega
   have hl2:=hu2.len;have hx2:max K D<u2.length:=qk;apply aj;simp only [go_sem,↓reduceIte,hmx,hmn,Int.toNat_natCast,Jr hx2,Rj,Rk,al,wrapN (k:=j) qk];repeat refine⟨qk,?_⟩
   refine R.fE (j+1,u2.set (max K D) ((min K D:Nat):Int)) ⟨qk,hu2.set qk⟩ (l:=xl)
  ·have f2:decide ((j:Int)<(l.length:Int))=false:=qz
   apply aj;simp only [go_sem,↓reduceIte,f2,wrapN (k:=k) qk];refine R.fE (k+1,u) ⟨qk,M⟩
 have U:decide ((k:Int)<(g.edges.length:Int))=false:=qz;refine zw U ?_;refine R.makeMap rfl rfl rfl qn λm hm hm0=>?_;refine ac ?_;refine R.mV 12 1012 35 1 qn rfl rfl ?_;refine R.to (S7 g.n m (0,u,[],[]) λ_=>.slice none 0 0) (by((simp only [go_sem,S7,Js]));all_goals(and_intros<;>rfl)) ?_;refine R.aqO (ids:=[1022,1012]) (vs:=[3]) (mr:=m) g.n 3 (λi=>i==1012) rfl (by rintro b (⟨t,h⟩|⟨i,p,h,_⟩)<;>cases h) (Kr rfl rfl rfl hm) rfl (λi C=>?_) (λt ht=>?_) (λt ht=>?_) (by simp [pO,St.map,lk,S7]) ?_
 ·simp only [cY,dx,gT,lw,eh]at C
  simp only [St.row,lk,S7];rw [ae (bt C.1),ae (bt C.2)];rfl
 ·obtain rfl:t=3:=uu ht
  rfl
 ·have E:t≠3:=uu ht
  simp only [St.var,lk,S7];rw [ae (bt E)];rfl
 intro w1 G1 rb1 Z mp1 B;refine R.O2 (S7 g.n m) (λx=>DL x.2.2.2) (λx f=>CI g.n x.1 x.2.1 x.2.2.1 x.2.2.2 f) (λx=>g.n-x.1) (0,u,[],[]) ⟨db _,M,.nil,λp hp=>(by cases hp),a3 _,λc hc=>(by cases hc),λy hy=>(by cases hy),.nil,λ_ _=>rfl⟩ B rfl rfl ?_;clear B w1 G1 rb1 Z mp1 M U N hm0;rintro⟨k,u,P,L⟩ f w1 G1 rb1 Z mp1 H B Q J aqP;simp only at H B;unfold S7;simp only;have hkn:=H.hk;have hLk:=H.len
 by_cases hlt:k<g.n
 ·have U:decide ((k:Int)<(g.n:Int))=true:=qz
  refine zw U ?_;refine R.cX [(3,[.own 1022])] [(1022,cO u)] [] [1022] rfl rfl rfl (λvb hvb=>Xd (vb 3) g.n u k hlt H.up) rfl zr Pj ?_ (hrb:=λi C=>?_)
  ·rintro jv-dn res ys O rows ⟨r,u',hu',hr,rfl,rfl,rfl,rfl⟩
   refine⟨rfl,rfl,⟨⟨_,_,rfl,rfl,by simp [hu'.len,H.up.len],rfl⟩,trivial⟩,?_⟩;refine ar ?_
   by_cases hf:r∈P.map (·.1)
   ·obtain⟨j,hj,hjr⟩:=bN hf
    simp only [al]at hj;simp only [ei]at hjr;obtain⟨hkey,A⟩:=H.key P[j] (am hj);generalize hq:P[j].2=q at A
    have n:rU aa 3 (.int .i64) (.int .i64 (r:Int)) ((Js P).map (·.1)) ((Js P).map (·.2)) true (I q):=by
     refine⟨rfl,λk N=>?_,?_,j,uu hj,by simp [ag,hj,hjr],by simp [ag,hj,hq]⟩
     ·simp only [cr,aq]at N
      obtain⟨z,_,rfl⟩:=N;rfl
     ·rw [cr]
      have:=H.nd;rw [List.nodup_iff_pairwise_ne]at this⊢;rw [eg]at this⊢;exact this.imp λh e=>h (by simp at e;omega)
    refine R.BP (m:=Js P) rfl rfl (ah qn) rfl q9 rfl TS n ?_;have o:((aw L.length).map λt=>PD.raw (f t)).getD q (.ak [])= .raw (f q):=by simp [A]
    have En:((aw L.length).map λt=>PD.raw (f t)).length=L.length:=qr;simp only [Xi];generalize hX:((aw L.length).map λt=>PD.raw (f t))=X at o En⊢;apply aj;simp only [go_sem,↓reduceIte,QD,o,En];repeat refine⟨qk,?_⟩
    refine R.S9 (j:=q) rfl B.N B.H B.A (MZ rfl B.v) rfl (Kr rfl rfl rfl hm) rfl rfl rfl qn qk rfl rfl rfl (iJ sl35) hi1 hz hsz hby rfl (by have:=H.lst (q);unfold maxLen;omega) (by have:=H.lst (q);omega) ?_;intro w2 G2 vT jv xq v' N2 H2 A2 D v2 u2 p2;apply aj;simp only [go_sem,↓reduceIte,QD,o,En,List.any_cons,List.any_nil,wrapN (k:=k) qk];repeat refine⟨qk,?_⟩
    have hst:∀v:Value,spl (.raw (f (q))) 0 (.raw v)= .raw v:=λ_=>rfl;rw [hst,<-hX,Xj f v' qk];refine R.to (S7 g.n m (k+1,u',P,L.set q (L.getD q []++[(k:Int)])) (uT f (q) v')) (by((simp only [go_sem,S7,Xi,Js,cc]));all_goals(and_intros<;>rfl)) (J (k+1,u',P,L.set q (L.getD q []++[(k:Int)])) _ _ _ _ _ _ (H.old hu' hlt A v') (by show _<_;simp only;omega) ⟨N2,by rw [TH A];exact H2,A2,λi C=>D i ?_,λt ht=>v2 t ?_,λt ht=>u2 t ?_,p2 m (by simp [pO,St.map,lk])⟩)
    ·simp only [cY,dx,gT,lw,eh]at C
     simp only [St.row,lk];rw [ae (bt C.1),ae (bt C.2)];rfl
    ·obtain rfl:t=3:=uu ht
     rfl
    ·have E:t≠3:=uu ht
     simp only [St.var,lk];rw [ae (bt E)];rfl
   ·have n:rU aa 3 (.int .i64) (.int .i64 (r:Int)) ((Js P).map (·.1)) ((Js P).map (·.2)) false (I 0):=by
     refine⟨rfl,λk N=>?_,zd3⟩;simp only [cr,aq]at N;obtain⟨z,hz,rfl⟩:=N;exact⟨rfl,λe=>hf (aq.2 ⟨z,hz,by simp at e;omega⟩)⟩
    refine R.BP (m:=Js P) rfl rfl (ah qn) rfl q9 rfl TS n ?_;have hnil:=H.nil L.length (a3 _);have o:((aw (L.length+1)).map λt=>PD.raw (f t)).getD L.length (.ak [])= .raw (f L.length):=qr;apply aj;simp only [go_sem,↓reduceIte,QD,al,gO];refine R.jA (m:=Js P) (.inl rfl) rfl (ah qn) rfl q9 rfl rfl TS rfl (λp hp=>?_) (.inr (.inr (.inl B.p))) ?_
    ·obtain⟨z,hz,rfl⟩:=aq.1 hp
     refine⟨rfl,λe=>?_⟩;have:=(H.key z hz).1;simp at e;omega
    apply aj;simp only [go_sem,↓reduceIte,fK,dQ.fK,QD];refine R.append (i:=1012) (r:=Xi L.length f) (es:=[.raw (.slice none 0 0)]) rfl rfl (λt h=>by cases h;show(88:Nat)<101;decide) rfl rfl rfl rfl LP rfl U0 qr (congrArg (Option.map List.length) U2) rfl (zO _) (by show _*iQ aa 35<=_;rw [U1];simp only [al,gO,an,a9];omega) (by simp only [maxLen,al,gO,an,a9];omega) ?_;simp only [HA hnil];have En:((aw (L.length+1)).map λt=>PD.raw (f t)).length=L.length+1:=qr;generalize hX:((aw (L.length+1)).map λt=>PD.raw (f t))=X at o En⊢;apply aj;simp only [go_sem,↓reduceIte,QD,o,En];repeat refine⟨qk,?_⟩
    refine R.S9 (j:=L.length) rfl B.N B.H B.A (MZ rfl B.v) rfl (Kr rfl rfl rfl hm) rfl rfl rfl qn qk rfl rfl rfl (iJ sl35) hi1 hz hsz hby rfl (by have:=H.lst (L.length);unfold maxLen;omega) (by have:=H.lst (L.length);omega) ?_;intro w2 G2 vT jv xq v' N2 H2 A2 D v2 u2 p2;apply aj;simp only [go_sem,↓reduceIte,QD,o,En,List.any_cons,List.any_nil,wrapN (k:=k) qk];repeat refine⟨qk,?_⟩
    have hst:∀v:Value,spl (.raw (f (L.length))) 0 (.raw v)= .raw v:=λ_=>rfl;rw [hst,<-hX,Xj f v' qk];refine R.to (S7 g.n m (k+1,u',P++[(k,L.length)],L++[[(k:Int)]]) (uT f (L.length) v')) (by((simp only [go_sem,S7,Xi,Js,bl,bd,an,a9]));all_goals(and_intros<;>rfl)) (J (k+1,u',P++[(k,L.length)],L++[[(k:Int)]]) _ _ _ _ _ _ (H.new hu' hlt v') (by show _<_;simp only;omega) ⟨N2,by rw [TO];exact H2,A2,λi C=>D i ?_,λt ht=>v2 t ?_,λt ht=>u2 t ?_,p2 m (by simp [pO,St.map,lk])⟩)
    ·simp only [cY,dx,gT,lw,eh]at C
     simp only [St.row,lk];rw [ae (bt C.1),ae (bt C.2)];rfl
    ·obtain rfl:t=3:=uu ht
     rfl
    ·have E:t≠3:=uu ht
     simp only [St.var,lk];rw [ae (bt E)];rfl
  ·show(if(i==1012)=true then none else rb1 i)=none
   split
   ·rfl
   ·rename_i hc
    refine B.r i ?_;simp only [oN]at C;simp at hc;simp;refine⟨λe=>?_,hc⟩;subst e;simp at C
 ·have U:decide ((k:Int)<(g.n:Int))=false:=qz
  have hke:k=g.n:=qk;subst hke;refine kP 6 _ _ ?_;simp only [go_sem,↓reduceIte,U];refine R.PG rfl λa' w' E' g'=>aqP 6 _ rfl _ _ _ _ _ _ ?_ a' w' E' g';refine R.TC (i:=1012) (u:=L.length) hLk rfl rfl rfl B.N B.H B.A (MZ rfl B.v) (Kr rfl rfl rfl hm) rfl rfl ?_;rw [HB];refine ar ?_;refine R.dI 1012 rfl rfl ?_;simp only [go_sem];refine R.rX [] [] [.pd (lls L)] ?_;exactλ_ _=>⟨L,⟨hLk,H.ne,H.rng,H.fl⟩,rfl,rfl,rfl,rfl⟩
def hxC:fM nM.tl hxP nM.fs=0:=qv
def hxN:(oK nM.fs hxP).length=3:=qv
def aqQ:minL [[0,1]]=[[0,1]]:=qv
def hxV:pJ 3 [0,0,0] [[0,1]]=true:=by
 unfold pJ;rw [aqQ];decide+kernel
def Gs:bg aa 28 [.pd (pY nM.g)] [B true]:=by have:=RX 3 [0,0,0] [[0,1]];rw [hxV]at this;exact this
def AG:RS nM.g:=ti (n:=3) hxV qu qu
def Pm:∀t∈nM.tl,Cc t/\t.attrs.length<=100000000:=by
 intro t h;rw [bp.1 h];refine⟨⟨qu,qu,qu,λa b=>?_⟩,qu⟩;rw [bp.1 b];exact⟨qu,qu,λs H=>by cases H⟩
def Pn:∀x∈nM.qs,qW x.2:=by
 intro x h;rw [bp.1 h];simp [qW,Fz,hxP]
abbrev t0(d:Nat)(c:Bool):Tk:=⟨nM,0,oK nM.fs (nH nM 0),d,c⟩
def hx0:jI nM true 0=0:=by
 unfold jI;rw [ae qu,ae qu];exact hxC
def hx1:jI nM true 1=11:=qv
def BK(d:Nat)(c:Bool):(t0 d c).A.length=3:=hxN
def uW(d:Nat)(c:Bool):YP (t0 d c) where
 g:=AG
 w:=tx hxC
 v:=Gs
 c:=GV _ AG.toRN Gs
def tz(d:Nat)(c:Bool):Um (t0 d c)=[0,3,(d:Int)]:=by
 have:=BK d c;unfold Um;rw [this];rfl
def aqR:Gp [0,3,2]=⟨#[116,97,115,107,32,48,32,51,32,50]⟩:=qv
def mf:oG (t0 0 false) 2=2/\wV (t0 0 false) 2=(1,0)/\oG (t0 2 false) 5=3/\wV (t0 2 false) 5=(0,0):=by
 have h:=BK 0 false;have H:=BK 2 false;refine⟨?_,?_,?_,?_⟩<;>simp [oG,wV,h]<;>exact hxN
def MU(b:Nat):bJ aa 13 [(20101,b)] [] [.aA 20101 0,.pd (I 2)] [(20101,dV (t0 0 false))] [(20102,rowT [])]
  (λ_ res xs vars rows=>res= .ret/\xs=[.pd (I 1),.pd (I 0)]/\∃L,vars=[(20101,dV (t0 2 false))]/\rows=[(20102,rowT L)]/\Bv (t0 2 false) 2 L):=by
 have h:=step_ok b (t0 0 false) [] 2 ⟨rfl,λi hi=>wh⟩ (db _) yr (uW 0 false);rw [mf.1,mf.2.1]at h;exact h
def MY(b:Nat)(L:List PD)(H:Bv (t0 2 false) 2 L):bJ aa 13 [(20101,b)] [] [.aA 20101 0,.pd (I 5)] [(20101,dV (t0 2 false))] [(20102,rowT L)]
  (λ_ res xs vars rows=>res= .ret/\xs=[.pd (I 0),.pd (I 0)]/\∃a,vars=[(20101,dV (t0 3 false))]/\rows=[(20102,rowT a)]/\Bv (t0 3 false) 3 a):=by
 have h:=step_ok b (t0 2 false) L 5 H yr yr (uW 2 false);rw [mf.2.2.1,mf.2.2.2]at h;exact h
def TX(b:Nat)(r:Row):bJ aa 10 [(20101,b)] [] [.aA 20101 0] [(20101,dV (t0 2 false))] [(20102,r)]
  (λ_ res xs vars rows=>res= .ret/\xs=[.pd (S ⟨#[116,97,115,107,32,48,32,51,32,50]⟩),.pd (I 0)]/\vars=[(20101,dV (t0 2 false))]/\rows=[(20102,r)]):=by
 have h:=YU b (t0 2 false) r ⟨by show(-9223372036854775808:Int)<=0;decide,by show(0:Int)<=9223372036854775807;decide⟩ yr (by show 2<=1000000000;decide) (by rw [tz];decide+kernel);rw [tz]at h;have e:(([0,3,((2:Nat):Int)]:List Int))=[0,3,2]:=rfl;rw [e,aqR]at h;exact h
def TZ(b:Nat)(L:List PD)(H:Bv (t0 2 false) 2 L):bJ aa 14 [(20101,b)] [] [.aA 20101 0] [(20101,dV (t0 2 false))] [(20102,rowT L)]
  (λ_ res xs vars rows=>res= .ret/\xs=[.pd (.raw (.slice none 0 0)),.pd (I 12)]/\vars=[(20101,dV (t0 2 false))]/\rows=[(20102,rowT L)]):=by
 have h:=Jo b (t0 2 false) L H.1 (λi a=>by rw [H.2 i a];rfl) (by show 2<=1000000000;decide) yr;rw [BK]at h;exact h
def Up(b:Nat)(L:List PD)(H:Bv (t0 3 false) 3 L):bJ aa 14 [(20101,b)] [] [.aA 20101 0] [(20101,dV (t0 3 false))] [(20102,rowT L)]
  (λ_ res xs vars rows=>res= .ret/\xs=[.pd (.list 5 L),.pd (I 0)]/\vars=[(20101,dV (t0 3 false))]/\rows=[(20102,rowT L)]):=by
 have h:=Jo b (t0 3 false) L H.1 (λi a=>by rw [H.2 i a];rfl) (by show 3<=1000000000;decide) yr;rw [BK]at h;exact h
abbrev tx2:ByteArray:=⟨#[116,97,115,107,32,48,32,51,32,50]⟩
abbrev tx4:ByteArray:=⟨#[116,97,115,107,32,48,32,51,32,52]⟩
abbrev mh:ByteArray:=⟨#[116,97,115,107,32,48,32,51,32,48,50]⟩
def pa2:PartOf (trimB tx2 pfx) ⟨#[48]⟩ ⟨#[51,32,50]⟩ 0:=⟨qq,qq,qq,qv,qu,qu,qu⟩
def pb2:PartOf ⟨#[51,32,50]⟩ ⟨#[51]⟩ ⟨#[50]⟩ 3:=⟨qq,qq,qq,qv,qu,qu,qu⟩
def pc2:PartOf ⟨#[50]⟩ ⟨#[50]⟩ ⟨#[]⟩ 2:=⟨qq,qq,qq,qv,qu,qu,qu⟩
def pa4:PartOf (trimB tx4 pfx) ⟨#[48]⟩ ⟨#[51,32,52]⟩ 0:=⟨qq,qq,qq,qv,qu,qu,qu⟩
def pb4:PartOf ⟨#[51,32,52]⟩ ⟨#[51]⟩ ⟨#[52]⟩ 3:=⟨qq,qq,qq,qv,qu,qu,qu⟩
def pc4:PartOf ⟨#[52]⟩ ⟨#[52]⟩ ⟨#[]⟩ 4:=⟨qq,qq,qq,qv,qu,qu,qu⟩
def atp:PartOf (trimB mh pfx) ⟨#[48]⟩ ⟨#[51,32,48,50]⟩ 0:=⟨qq,qq,qq,qv,qu,qu,qu⟩
def atq:PartOf ⟨#[51,32,48,50]⟩ ⟨#[51]⟩ ⟨#[48,50]⟩ 3:=⟨qq,qq,qq,qv,qu,qu,qu⟩
def atr:PartOf ⟨#[48,50]⟩ ⟨#[48,50]⟩ ⟨#[]⟩ 2:=⟨qq,qq,qq,qv,qu,qu,qu⟩
def vx:((oK nM.fs (nH nM 0)).length:Int)=3:=congrArg _ hxN
def HC:bJ aa 9 [] [] [.pd (MX nM),.pd (I 0),.pd (S tx2)] [] [] (λ_ res xs vars rows=>res= .ret/\xs=[.aA 20101 0,.pd (I 0)]/\vars=[(20101,dV (t0 2 false))]/\rows=[(20102,rowT [])]):=by
 have h:=Jq nM 0 tx2 _ _ _ _ _ _ 0 3 2 pa2 pb2 pc2 qv Gs Pm Pn hx0;unfold RQ at h;rw [show Kq tx2 ⟨#[48]⟩ ⟨#[51]⟩ ⟨#[50]⟩ 0 3 2=true by decide+kernel,show zZ nM 0 0 3 2=false by unfold zZ;rw [vx];decide]at h;exact h
def HD:bJ aa 9 [] [] [.pd (MX nM),.pd (I 0),.pd (S tx4)] [] [] (λ_ res xs vars rows=>res= .ret/\xs=[.pd (.raw (.pointer none)),.pd (I 21)]/\vars=[]/\rows=[]):=by
 have h:=Jq nM 0 tx4 _ _ _ _ _ _ 0 3 4 pa4 pb4 pc4 qv Gs Pm Pn hx0;unfold RQ at h;rw [show Kq tx4 ⟨#[48]⟩ ⟨#[51]⟩ ⟨#[52]⟩ 0 3 4=true by decide+kernel,show zZ nM 0 0 3 4=true by unfold zZ;rw [vx];decide]at h;exact h
def Cl:bJ aa 9 [] [] [.pd (MX nM),.pd (I 0),.pd (S mh)] [] [] (λ_ res xs vars rows=>res= .ret/\xs=[.pd (.raw (.pointer none)),.pd (I 4)]/\vars=[]/\rows=[]):=by
 have h:=Jq nM 0 mh _ _ _ _ _ _ 0 3 2 atp atq atr qv Gs Pm Pn hx0;unfold RQ at h;rw [show Kq mh ⟨#[48]⟩ ⟨#[51]⟩ ⟨#[48,50]⟩ 0 3 2=false by decide+kernel]at h;exact h
def Kp:bJ aa 12 [] [] [.pd (MX nM),.pd (I 0)] [] [] (λ_ res xs vars rows=>res= .ret/\xs=[.aA 20101 0,.pd (I 0)]/\vars=[(20101,dV (t0 0 false))]/\rows=[(20102,rowT [])]):=by
 have h:=Gn nM 0 true Gs Pm Pn;rw [hx0]at h;exact h
def Ks:bJ aa 12 [] [] [.pd (MX nM),.pd (I 1)] [] [] (λ_ res xs vars rows=>res= .ret/\xs=[.pd (.raw (.pointer none)),.pd (I 11)]/\vars=[]/\rows=[]):=by
 have h:=Gn nM 1 true Gs Pm Pn;rw [hx1]at h;exact h
def Nd:bg aa 5 [] [B true]:=by
 have n:((0:Int)==0)=true:=rfl;have m:((1:Int)==1)=true:=rfl;have O:((3:Int)==3)=true:=rfl;have k:((4:Int)==4)=true:=rfl;have j:((11:Int)==11)=true:=rfl;have g:((12:Int)==12)=true:=rfl;have Z:((21:Int)==21)=true:=rfl;have z:((22:Int)==22)=true:=rfl;refine bg.mk Tryz.func5 λw G=>?_;refine ac ?_;refine R.kW (Cz) rfl rfl (.nil) ?_;refine ac ?_;refine R.YM 32 qn rfl upX ?_;simp only [go_sem];refine R.DZ rfl rfl (aW:=[]) (bH:=[]) (pn:=[]) [20101] [] rfl rfl rfl rfl rfl rfl rfl rfl rfl rfl rfl rfl qr qu rfl zr Gm (λb H=>Kp) (λt D h=>xa) (λi r h=>xa) (λt ht=>vz) (λ_ _=>rfl) ?_;rintro C-d s a v rows ⟨rfl,rfl,rfl,rfl⟩;refine⟨rfl,rfl,trivial,_,_,rfl,?_⟩;simp only [Cx.xK];refine ac ?_;refine R.cX [(20101,dV (t0 0 false))] [(20102,rowT [])] [] [] rfl rfl rfl (λb H=>MU (b 20101)) rfl zr CJ ?_;rintro jv-d s a v rows ⟨rfl,rfl,L1,rfl,rfl,f⟩;refine⟨rfl,rfl,trivial,?_⟩;refine ac ?_;refine R.cX [(20101,dV (t0 2 false))] [(20102,rowT L1)] [] [] rfl rfl rfl (λb H=>TX (b 20101) (rowT L1)) rfl zp Ko ?_;rintro P-d s a v rows ⟨rfl,rfl,rfl,rfl⟩;refine⟨rfl,rfl,trivial,?_⟩;refine ac ?_;refine R.cX [(20101,dV (t0 2 false))] [(20102,rowT L1)] [] [] rfl rfl rfl (λb H=>TZ (b 20101) L1 f) rfl zp Un ?_;rintro A-d s a v rows ⟨rfl,rfl,rfl,rfl⟩;refine⟨rfl,rfl,trivial,?_⟩;refine ac ?_;refine R.cX [(20101,dV (t0 2 false))] [(20102,rowT L1)] [] [] rfl rfl rfl (λb H=>MY (b 20101) L1 f) rfl zr CJ ?_;rintro x-d s a v rows ⟨rfl,rfl,L,rfl,rfl,e⟩;refine⟨rfl,rfl,trivial,?_⟩;refine ac ?_;refine R.cX [(20101,dV (t0 3 false))] [(20102,rowT L)] [] [] rfl rfl rfl (λb H=>Up (b 20101) L e) rfl zp Un ?_;rintro u-d s a v rows ⟨rfl,rfl,rfl,rfl⟩;refine⟨rfl,rfl,trivial,?_⟩;refine ac ?_;refine R.YM 62 qn rfl upX ?_;simp only [go_sem];refine R.DZ rfl rfl (aW:=[]) (bH:=[]) (pn:=[]) [20101] [] rfl rfl rfl rfl rfl rfl rfl rfl rfl rfl rfl rfl qr qu rfl zt nE (λb H=>HC) (λt D h=>xa) (λi r h=>xa) (λt ht=>vz) (λ_ _=>rfl) ?_;rintro q-d s a v rows ⟨rfl,rfl,rfl,rfl⟩;refine⟨rfl,rfl,trivial,_,_,rfl,?_⟩;simp only [Cx.xK];refine ac ?_;refine R.cX [(20101,dV (t0 2 false))] [(20102,rowT [])] [] [] rfl rfl rfl (λb H=>Jp (b 20101) (t0 2 false) (rowT []) 0 (.inr qu)) rfl zr CJ ?_;rintro p-d s a v rows ⟨rfl,rfl,rfl,rfl⟩;refine⟨rfl,rfl,trivial,?_⟩;refine ac ?_;refine R.cX [(20101,dV (t0 2 false))] [(20102,rowT [])] [] [] rfl rfl rfl (λb H=>DO (b 20101) (t0 2 false) (rowT [])) rfl zp Ue ?_;rintro o-d s a v rows ⟨rfl,rfl,rfl,rfl⟩;refine⟨rfl,rfl,trivial,?_⟩;refine ac ?_;refine R.cX [(20101,dV (t0 2 true))] [(20102,rowT [])] [] [] rfl rfl rfl (λb H=>Jp (b 20101) (t0 2 true) (rowT []) 1 (.inl rfl)) rfl zr CJ ?_;rintro N-d s a v rows ⟨rfl,rfl,rfl,rfl⟩;refine⟨rfl,rfl,trivial,?_⟩;refine ac ?_;refine R.YM 80 qn rfl upX ?_;simp only [go_sem];refine R.cX [] [] [] [] rfl rfl rfl (λb H=>HD) rfl zt nE ?_;rintro M-d s a v rows ⟨rfl,rfl,rfl,rfl⟩;refine⟨rfl,rfl,trivial,?_⟩;refine ac ?_;refine R.YM 85 qn rfl upX ?_;simp only [go_sem];refine R.cX [] [] [] [] rfl rfl rfl (λb H=>Cl) rfl zt nE ?_;rintro K-d s a v rows ⟨rfl,rfl,rfl,rfl⟩;refine⟨rfl,rfl,trivial,?_⟩;refine ac ?_;refine R.YM 90 qn rfl upX ?_;simp only [go_sem];refine R.cX [] [] [] [] rfl rfl rfl (λb H=>Ks) rfl zr Gm ?_;rintro J-d s a v rows ⟨rfl,rfl,rfl,rfl⟩;refine⟨rfl,rfl,trivial,?_⟩;refine ac ?_;refine R.cX [] [] [] [] rfl rfl rfl (λb H=>Xc) rfl zp Ue ?_;rintro E-d s a v rows ⟨rfl,rfl,rfl,rfl⟩;refine⟨rfl,rfl,trivial,?_⟩;refine ac ?_;refine R.kW (Ch) rfl rfl zd ?_;have l:((L.length:Int)==3)=true:=by rw [e.1];rfl
 apply aj;simp only [go_sem,↓reduceIte,n,m,k,j,g,Z,z,l];refine ar ?_;refine R.rW ?_;rfl
def Uq(a b c:Int)(d:-9223372036854775808<=a/\a<=9223372036854775807)(H:-9223372036854775808<=b/\b<=9223372036854775807)(h:-9223372036854775808<=c/\c<=9223372036854775807):(Df (lV [a,b,c]) QC).length<=140737488355328:=by
 have g:=ix a d.1 d.2;have f:=ix b H.1 H.2;have e:=ix c h.1 h.2;simp [Df,lV,Lib.join,str];omega
structure nF(m:ru):Prop where
 t:∀t∈m.tl,Cc t/\t.attrs.length<=100000000
 p:∀x∈m.qs,qW x.2
def HE{m:ru}{v:Bool}{q:Int}(h:jI m v q=0):v=true/\m.g.n=m.fs.length/\fM m.tl (nH m q) m.fs=0:=by
 unfold jI at h
 split at h
 ·cases h
 ·rename_i H
  split at h
  ·cases h
  ·refine⟨?_,?_,h⟩
   ·cases v
    ·simp at H
    ·rfl
   ·simp at H;omega
def Nf(m:ru)(N:Int)(a e:Nat)(n:Int)(hm:nF m)(hN:0<=N->m.g.n=N.toNat)(hr:a<256)(hb:e<256):
  bg aa 4 [.pd (IX m N),.pd (.raw (.int .u8 a)),.pd (.raw (.int .u8 e)),.pd (I n)] [B true]:=by
 have Z:((0:Int) !=0)=false:=rfl;have z1:((1:Int) !=0)=true:=rfl;have z2:((1:Int) !=1)=false:=rfl;have z3:((0:Int)==0)=true:=rfl;have z4:((12:Int)==12)=true:=rfl;refine bg.mk ns λw G=>?_;refine ac ?_;refine R.kW (Nd) rfl rfl (.nil) ?_;refine ac ?_;refine R.kC (K0 m N a qk qk) rfl rfl ze ?_;refine ac ?_;refine R.kC (NF m N) rfl rfl ze ?_
 cases C:ji m N 12 30
 ·refine ar ?_
  refine R.rW ?_;rfl
 by_cases X:m.qs.length=0
 ·have J:decide (m.qs.length≠0)=false:=uu X
  refine zw J ?_;refine R.rW ?_;rfl
 have J:decide (m.qs.length≠0)=true:=uu X
 by_cases hn:n>0
 ·have O:decide (n>0)=true:=uu hn
  refine zz J O ?_;refine R.rW ?_;rfl
 have O:decide (n>0)=false:=uu hn;refine zz J O ?_;have H:=RX N m.g.cost m.g.edges
 have u:m.qs.length<=4/\N<=12/\m.g.edges.length<=1000:=by
  simp only [ji,qp,IW,bj,cE]at C;exact⟨C.1.1.1,C.1.1.2.1.1,by have:=C.1.1.2.2.2;omega⟩
 have U:0<=WG m a/\WG m a<=255:=by
  unfold WG;rw [ae X];have h1:(0:Int)<(m.qs.length:Int):=qk;rw [AQ qk];have h2:=sc (a:Int) (b:=(m.qs.length:Int)) qk;have h3:=r7 (a:Int) h1;omega
 clear C J O;generalize WG m a=q at U⊢
 cases M:pJ N m.g.cost m.g.edges
 ·rw [M]at H
  refine R.cX [] [] [] [] rfl rfl rfl (λg f=>Ck m N q H) rfl zr Gm ?_;rintro Q-D s k v rows ⟨rfl,rfl,rfl,rfl⟩;refine⟨rfl,rfl,trivial,?_⟩;refine zw z1 ?_;refine R.rW ?_;rfl
 have hN0:=(RZ M).1;obtain⟨N',rfl⟩:∃N':Nat,N=N':=⟨N.toNat,qk⟩;obtain rfl:N'=m.g.n:=(hN hN0).symm;rw [M]at H;have h12:m.g.n<=12:=by have:=u.2.1;omega
 have hG:RS m.g:=ti M h12 u.2.2;refine R.DZ rfl rfl (aW:=[]) (bH:=[]) (pn:=[]) [20101] [] rfl rfl rfl rfl rfl rfl rfl rfl rfl rfl rfl rfl qr qu rfl zr Gm (λg f=>Gn m q true H hm.t hm.p) (λt cs h=>xa) (λi r h=>xa) (λt ht=>vz) (λ_ _=>rfl) ?_;rintro Q-D s k v rows ⟨rfl,h⟩
 by_cases p:¬jI m true q=0
 ·rw [ae p]at h
  obtain⟨rfl,rfl,rfl⟩:=h;refine⟨rfl,rfl,trivial,_,_,rfl,?_⟩;simp only [Cx.xK];have zs:(jI m true q !=0)=true:=uu p;refine zw zs ?_;refine R.rW ?_;rfl
 have p:jI m true q=0:=Decidable.not_not.1 p;rw [af p]at h;obtain⟨rfl,rfl,rfl⟩:=h;refine⟨rfl,rfl,trivial,_,_,rfl,?_⟩;simp only [Cx.xK];obtain⟨_,hgn,j⟩:=HE p;have hA:∀d c,YP ⟨m,q,oK m.fs (nH m q),d,c⟩:=λd c=>⟨hG,by rw [hgn];exact tx j,H,GV _ hG.toRN H⟩;have hAl:=O0 j;generalize oK m.fs (nH m q)=A at hA hAl⊢;have hw:IntKind.i64.wrap (e:Int)=e:=wrap64 qk qk
 obtain⟨K,hK,hK1⟩:∃K:Int,IntKind.i64.wrap (1+(e:Int).tmod 4)=K/\1<=K:=by
  have h2:=sc (e:Int) (b:=4) qk;have h3:=r7 (e:Int) (b:=4) qk;have h4:(e:Int).tmod 4=(e:Int) % 4:=AQ qk;refine⟨1+(e:Int).tmod 4,?_,qk⟩;rw [h4];exact wrap64 qk qk
 refine qb Z hw hK ?_;refine⟨qu,?_⟩;have E:oG ⟨m,q,A,0,false⟩ K=min A.length (0+K.toNat):=by unfold oG;rw [ae Bool.false_ne_true,ae qk]
 have x:wV ⟨m,q,A,0,false⟩ K=((A.length:Int)-(oG ⟨m,q,A,0,false⟩ K:Nat),0):=by unfold wV;rw [ae Bool.false_ne_true,ae qk]
 have o:=λb=>step_ok b ⟨m,q,A,0,false⟩ [] K ⟨rfl,λi hi=>wh⟩ (db _) (by show A.length<=_;omega) (hA 0 false);rw [x,E]at o;obtain⟨d,hd⟩:∃d,min A.length (0+K.toNat)=d:=⟨_,rfl⟩;have hdl:d<=A.length:=qk;rw [hd]at o;clear E x hd;refine R.cX [(20101,dV ⟨m,q,A,0,false⟩)] [(20102,rowT [])] [] [] rfl rfl rfl (λg f=>o (g 20101)) rfl zr CJ ?_;rintro jv-D s k v rows ⟨rfl,rfl,L,rfl,rfl,hL⟩;refine⟨rfl,rfl,trivial,?_⟩;have l:=λb=>YU b ⟨m,q,A,d,false⟩ (rowT L) ⟨by show _<=q;omega,by show q<=_;omega⟩ (by show A.length<=_;omega) (by show d<=_;omega) (Uq q A.length d qk qk qk);refine ar ?_;refine R.cX [(20101,dV ⟨m,q,A,d,false⟩)] [(20102,rowT L)] [] [] rfl rfl rfl (λg f=>l (g 20101)) rfl zp Ko ?_;rintro YJ-D s k v rows ⟨rfl,rfl,rfl,rfl⟩;refine⟨rfl,rfl,trivial,?_⟩;refine ar ?_;refine R.cX [(20101,dV ⟨m,q,A,d,false⟩)] [(20102,rowT L)] [] [] rfl rfl rfl (λg f=>Jp (g 20101) ⟨m,q,A,d,false⟩ (rowT L) n (.inr qk)) rfl zr CJ ?_;rintro vb4-D s k v rows ⟨rfl,rfl,rfl,rfl⟩;refine⟨rfl,rfl,trivial,?_⟩;refine ar ?_;have T:=λb=>Jo b ⟨m,q,A,d,false⟩ L hL.1 (λi hi=>by rw [hL.2 i hi];rfl) (by show d<=_;omega) (by show A.length<=_;omega);refine R.cX [(20101,dV ⟨m,q,A,d,false⟩)] [(20102,rowT L)] [] [] rfl rfl rfl (λg f=>T (g 20101)) rfl zp Un ?_;rintro vb5-D s k v rows ⟨rfl,rfl,rfl,rfl⟩;refine⟨rfl,rfl,trivial,?_⟩
 by_cases z:d<A.length
 ·have e0:((A.length:Int)-(d:Nat)==0)=false:=eh.2 qk
  have e1:decide ((A.length:Int)-(d:Nat)>0)=true:=qz;simp only [ae (show¬(false=true) by decide),af z];refine ar ?_;refine R.cX [(20101,dV ⟨m,q,A,d,false⟩)] [(20102,rowT L)] [] [] rfl rfl rfl (λg f=>l (g 20101)) rfl zp Ko ?_;rintro P-D s k v rows ⟨rfl,rfl,rfl,rfl⟩;refine⟨rfl,rfl,trivial,?_⟩;apply aj;simp only [go_sem,↓reduceIte,Z,z2,z4,e0,e1];refine qa ?_;refine R.rW ?_;rfl
 ·have e0:((A.length:Int)-(d:Nat)==0)=true:=qz
  simp only [ae (show¬(false=true) by decide),ae z];refine ar ?_;refine R.cX [(20101,dV ⟨m,q,A,d,false⟩)] [(20102,rowT L)] [] [] rfl rfl rfl (λg f=>l (g 20101)) rfl zp Ko ?_;rintro P-D s k v rows ⟨rfl,rfl,rfl,rfl⟩;refine⟨rfl,rfl,trivial,?_⟩;apply aj;simp only [go_sem,↓reduceIte,Z,z2,z3,e0];refine qa ?_;refine R.rW ?_;rfl
open Go.ChangeShapes Go.WideShapes
section
variable {H:Type}{enc:TypeId×Value->H}{w:World}
def Ng(N:Nat):oP enc aa w N 105 9 AZ (λq=>qW q.2):=by
 refine⟨λq=>by simp [bC,PD.cells,PD.width],λl i C x h e=>?_⟩;obtain⟨b,f⟩:=iK (N:=N) Tryz.underlying105 h qk e;obtain⟨n,_,g⟩:=f 0 _ rfl (wJ Tryz.underlying9) co9;obtain⟨p,a,H⟩:=f 1 _ rfl (Vu N) ZJ;refine⟨(n,p),by rw [b,tM],a,λj d=>?_⟩;simp only [AZ,bC]at H⊢
 match j,d with
 |0,_=>exact g 0 qu
 |1,_=>exact H 0 qu
 |2,_=>exact H 1 qu
 |3,_=>exact H 2 qu
 |4,_=>exact H 3 qu
 |5,_=>exact H 4 qu
 |6,_=>exact H 5 qu
 |7,_=>exact H 6 qu
 |8,_=>exact H 7 qu
def HF(N:Nat):oP enc aa w N 32 7 (λs:List dO×List (ByteArray×Plan)=>PD.ak [H6 s.1,.unk,.unk,.unk,.unk,.unk,.list 9 (s.2.map AZ)]) (λs=>(∀t∈s.1,Cc t/\t.attrs.length<=100000000)/\∀x∈s.2,qW x.2):=by
 refine⟨λ_=>rfl,λf r C x h e=>?_⟩;obtain⟨l,H⟩:=iK (N:=N) Tryz.underlying32 h qk e;obtain⟨tl,a,p⟩:=H 0 _ rfl (ZK N) zl;obtain⟨_,_,o⟩:=H 1 _ rfl (qo Tryz.underlying25) qq;obtain⟨_,_,n⟩:=H 2 _ rfl (qo Tryz.underlying26) qq;obtain⟨_,_,m⟩:=H 3 _ rfl (qo Tryz.underlying27) qq;obtain⟨_,_,k⟩:=H 4 _ rfl (qo Tryz.underlying28) qq;obtain⟨_,_,i⟩:=H 5 _ rfl (qo Tryz.underlying29) qq;obtain⟨q,b,g⟩:=H 6 _ rfl (lg (Ng N) qu Tryz.underlying30 tM) qq;refine⟨(tl,q),by rw [l,zR],⟨a.2,b.2⟩,λj d=>?_⟩
 match j,d with
 |0,_=>exact p 0 qu
 |1,_=>exact o 0 qu
 |2,_=>exact n 0 qu
 |3,_=>exact m 0 qu
 |4,_=>exact k 0 qu
 |5,_=>exact i 0 qu
 |6,_=>exact g 0 qu
def HG(N:Nat):oP enc aa w N 39 3 (λg:Int×List Int×LL=>hyD g.1 g.2.1 g.2.2) (λ_=>True):=by
 refine⟨λ_=>rfl,λf m C x h b=>?_⟩;obtain⟨l,H⟩:=iK (N:=N) Tryz.underlying39 h qk b;obtain⟨n,_,k⟩:=H 0 _ rfl (jh cM) co3;obtain⟨c,_,i⟩:=H 1 _ rfl (AV N) Vs;obtain⟨e,_,d⟩:=H 2 _ rfl (lg (AV N) qu Tryz.underlying37 Vs) qq;refine⟨(n,c,e),by rw [l,Ab],trivial,λj a=>?_⟩
 match j,a with
 |0,_=>exact k 0 qu
 |1,_=>exact i 0 qu
 |2,_=>exact d 0 qu
def Kx(N:Nat):oP enc aa w N 42 1 (λ_:Unit=>PD.unk) (λ_=>True):=by
 refine⟨λ_=>rfl,λf g C x h b=>?_⟩;obtain⟨H,a⟩:=iK (N:=N) Tryz.underlying42 h qk b;obtain⟨_,_,d⟩:=a 0 _ rfl (qo Tryz.underlying40) qq
 exact⟨(),by rw [H,Al],trivial,λj e=>by obtain rfl:j=0:=by omega
                                        exact d 0 qu⟩
def Ni(N:Nat):oP enc aa w N 44 16 (λx:ru×Int=>IX x.1 x.2) (λx=>nF x.1/\(0<=x.2->x.1.g.n=x.2.toNat)):=by
 refine⟨λ_=>rfl,λf u C x h g=>?_⟩;obtain⟨l,H⟩:=iK (N:=N) sd h qk g;obtain⟨⟨tl,q⟩,s,a⟩:=H 0 _ rfl (HF N) zR;obtain⟨_,_,r⟩:=H 1 _ rfl (qo Tryz.underlying33) qq;obtain⟨_,_,p⟩:=H 2 _ rfl (qo Tryz.underlying34) qq;obtain⟨_,_,o⟩:=H 3 _ rfl (qo AK) qq;obtain⟨t,_,m⟩:=H 4 _ rfl (Kj N) qq;obtain⟨⟨n,c,e⟩,_,d⟩:=H 5 _ rfl (HG N) Ab;obtain⟨_,_,k⟩:=H 6 _ rfl (Kx N) Al;obtain⟨_,_,i⟩:=H 7 _ rfl (qo AK) qq;refine⟨(⟨tl,q,t,⟨n.toNat,c,e⟩,λ_=>.unk⟩,n),by rw [l,zP],⟨⟨s.1,s.2⟩,λ_=>rfl⟩,λj b=>?_⟩
 match j,b with
 |0,_=>exact a 0 qu
 |1,_=>exact a 1 qu
 |2,_=>exact a 2 qu
 |3,_=>exact a 3 qu
 |4,_=>exact a 4 qu
 |5,_=>exact a 5 qu
 |6,_=>exact a 6 qu
 |7,_=>exact r 0 qu
 |8,_=>exact p 0 qu
 |9,_=>exact o 0 qu
 |10,_=>exact m 0 qu
 |11,_=>exact d 0 qu
 |12,_=>exact d 1 qu
 |13,_=>exact d 2 qu
 |14,_=>exact k 0 qu
 |15,_=>exact i 0 qu
 |j+16,b=>exact absurd b qk
end
open Go.ChangeAt Go.RowKit
def dY{a b:Bool}(h:a=true)(k:b=true):(a&&b)=true:=by rw [h,k];rfl
abbrev za(q:Program->FuncId->Func->ChangeSpec->OpenClaim->Bool):Prop:=q aa 4 ee ((Rows.OpenSpec.upto Rows.taskRefusesSpec).bare) Rows.taskRefusesUptoRow=true
def zb{q}(h:q aa 4 ee ((Rows.OpenSpec.upto Rows.taskRefusesSpec).bare) Rows.taskRefusesUptoRow=true:=by kernel_rfl):za q:=h
def atv:za λP f fn s c=>c.wf (OpenSpec.ofChange s):=zb
def atw:za λP f fn s c=>laidOutB P:=zb
def atx:za λP f fn s c=>mapsRowed P:=zb
def aty:za λP f fn s c=>fn.params.all (P.readableRec ·):=zb
def atz:za λP f fn s c=>namedTie P c.named s.vars:=zb
def atA:za λP f fn s c=>c.stops== []:=zb
def atC:za λP f fn s c=>P.stops== []:=zb
def atD:za λP f fn s c=>c.knobs== []:=zb
def atE:za λP f fn s c=>P.stopKnobs== []:=zb
def atF:za λP f fn s c=>c.inPlace==P.inPlace f:=zb
def aqS:za λP f fn s c=>c.unfollowed==P.unfollowed f:=zb
def aqT:za λP f fn s c=>c.recurses==P.recurses f:=zb
def aqU:za λP f fn s c=>c.named==P.varsNamed f:=zb
def aqV:za λP f fn s c=>c.maps==(fn.params.toList++s.plain.varTypes P).any (P.mapsRec ·):=zb
def aqW:za λP f fn s c=>c.ifaces==(fn.params.toList++s.plain.varTypes P).any (P.ifacesRec ·):=zb
def aqX:za λP f fn s c=>c.mapsOut==P.mapsAmong fn.resultTypes.toList:=zb
def aqY:za λP f fn s c=>c.loops==(fn.params.toList++s.plain.varTypes P).any (P.loopsFrom ·):=zb
def aqZ:za λP f fn s c=>c.wideKeys==(fn.params.toList++s.plain.varTypes P++fn.resultTypes.toList).any (P.wideKeysFrom ·):=zb
def XS:za λP f fn s c=>s.vars.all (P.varReadable ·):=zb
def XX:za λP f fn s c=>fn.resultTypes.all (λt=>P.readableRec t&&decide (t<P.types.size)):=zb
def Ys:za λP f fn s c=>c.ifacesOut==fn.resultTypes.toList.any (P.ifacesRec ·):=zb
def Yt:za λP f fn s c=>c.loopsOut==fn.resultTypes.toList.any (P.loopsFrom ·):=zb
def YW:za λP f fn s c=>c.plainKeys==P.plainKeys:=zb
def YY:za λP f fn s c=>c.shortTexts.isNone:=zb
def Zm:za λP f fn s c=>P.stopsHeard:=zb
def Zs:za λP f fn s c=>P.mayEnter:=zb
def Z0:za λP f fn s c=>c.lifted==P.liftsFinal:=zb
def Z1:za λP f fn s c=>P.make==some c.make:=zb
def ara:za λP f fn s c=>c.kinds==(if c.domain.isEmpty then []else fn.params.toList.map λt=>match P.underlying t with|some (.int k)=>some k|_=>none):=zb
def arb:za λP f fn s c=>c.pinned==c.pinnedBy:=zb
def ard:za λP f fn s c=>c.veiled==(fn.params.toList++s.plain.varTypes P++fn.resultTypes.toList).any (P.veiledRec ·):=zb
def arf:za λP f fn s c=>c.veiledFits P fn.params.toList (fn.params.toList++s.plain.varTypes P++fn.resultTypes.toList):=zb
def Nm:joinedFacts aa 4 ee ((Rows.OpenSpec.upto Rows.taskRefusesSpec).bare) Rows.taskRefusesUptoRow=true:=dY (dY (dY (dY (dY (dY (dY (dY (dY (dY (dY (dY (dY (dY (dY (dY (dY (dY (dY (dY (dY (dY (dY (dY (dY (dY (dY (dY (dY (dY (dY (atv) atw) atx) aty) atz) atA) atC) atD) atE) atF) aqS) aqT) aqU) aqV) aqW) aqX) aqY) aqZ) XS) XX) Ys) Yt) YW) YY) Zm) Zs) Z0) Z1) ara) arb) ard) arf
def Uv:Tryz.pinned.checked.prog.funcNamed Rows.taskRefusesUptoRow.func=some 4:=qq
def arh:ee.isInstance Tryz.pinned.checked.prog Rows.taskRefusesUptoRow.origin Rows.taskRefusesUptoRow.targs:=fN qq
def ari:ee.isWrapper Tryz.pinned.checked.prog Rows.taskRefusesUptoRow.wrapper Rows.taskRefusesUptoRow.mainSum:=by
 unfold Func.isWrapper;first|(rw [af qv];kernel_rfl)|(rw [ae qv];exact⟨rfl,rfl⟩)
def wf4:Rows.taskRefusesUptoRow.wfByText (Rows.OpenSpec.upto Rows.taskRefusesSpec)=true:=qq
def arj:Tryz.pinned.checked.prog.mainIs=some (true, "23c8d4bf0ad1f42703f864b51941cd46850012f9829a07592478ee833839becb".toList):=qq
def HH{P:Program}(h:P.funcs.toList.all (λg=>!g.goes)=true)(f:FuncId):P.goes f=false:=by
 have a:∀g∈P.funcs.toList,g.goes=false:=λg H=>uu (aM.1 h g H)
 have b:P.funcs.any Func.goes=false:=by
  rw [<-Array.any_toList];exact eW.2 λg H=>by simp [a g H]
 unfold Program.goes;rw [b,nh,gT];refine eW.2 λg _=>?_
 cases H:P.funcs[g]? with
 |none=>simp
 |some x=>
  have:=a x (ka.2 (Array.mem_of_getElem? H));simp [this]
def ark:false=Rows.taskRefusesUptoRow.goesBy Tryz.pinned.checked.prog:=by
 have h:∀f,aa.goes f=false:=HH qq;have H:aa.goes=λ_=>false:=funext h;show false=aa.goesAt _ _;unfold Program.goesAt Program.goesFrom;rw [H]
 cases aa.funcNamed _<;>simp<;>split<;>simp
def UB(f:FuncId)(fn:Func)(b:Tryz.pinned.checked.prog.funcNamed "cleanse/cleanselaw50.TaskRefuses" =some f)(H:Tryz.pinned.checked.prog.funcs[f]? =some fn):
  true=Tryz.pinned.checked.prog.looks []/\∀(j:Nat) t,fn.params[j]? =some t->Tryz.pinned.checked.prog.wantsStandIn t=false:=by
 obtain rfl:f=4:=gm ((show aa.funcNamed "cleanse/cleanselaw50.TaskRefuses" =some 4 by kernel_rfl).symm.trans b)|>.symm;obtain rfl:fn=ee:=(gm (ns.symm.trans H)).symm;refine⟨qq,λj t a=>?_⟩;rw [Tryz.params4]at a;have m:t∈[44,5,5,3]:=uu (Array.mem_of_getElem? a);have h:([44,5,5,3].all λu=>!Tryz.prog.wantsStandIn u)=true:=qq;exact(show aa.wantsStandIn t=false by simpa using aM.1 h t m)
def Tc{P:Program}{w:World}{r:Reach}{t:TypeId}{v:Value}(H:P.underlying t=some (.int .u8))(h:lP P w r base t v):∃n:Nat,n<256/\v= .int .u8 (n:Int):=by
 simp only [lP,H,Cell.okWide]at h
 cases v<;>simp_all [Cell.ok]
 rename_i k n;have a:0<=n/\n<=255:=h.2;exact⟨n.toNat,qk,qk⟩
def Cn{P:Program}{w:World}{r:Reach}{t:TypeId}{v:Value}(H:P.underlying t=some (.int .i64))(h:lP P w r base t v):∃n:Int,v= .int .i64 n:=by
 simp only [lP,H,Cell.okWide]at h
 cases v<;>simp_all [Cell.ok]
def PH{w:World}{G:Pub}{c:Array Value}{ds:List PD}(H:c.size=ds.length)(h:∀j,j<ds.length->Rd w G ((Value.agg c).cells.toList.getD j undef) ((PD.ak ds).cell j)):aH w G (.agg c) (.ak ds):=
 ⟨c,rfl,H,λj a=>by
  have:=h j a
  have e:(Value.agg c).cells.toList.getD j undef=c.getD j undef:=by
   show c.toList.getD j undef=_;simp [ag,aL]
  rwa [e]at this⟩
abbrev Us:Array Value:=#[.agg #[.slice none 0 0,.slice none 0 0,.slice none 0 0,.slice none 0 0,.slice none 0 0,.slice none 0 0,.slice none 0 0,.slice none 0 0,.slice none 0 0,.slice none 0 0,.slice none 0 0,.int .i64 0,.slice none 0 0,.slice none 0 0,.slice none 0 0,.slice none 0 0],.int .u8 0,.int .u8 0,.int .i64 0]
section
variable (Na:∀(m:ru) (N:Int) (raw before:Nat) (n:Int),nF m->(0<=N->m.g.n=N.toNat)->raw<256->before<256->bg aa 4 [.pd (IX m N),.pd (.raw (.int .u8 raw)),.pd (.raw (.int .u8 before)),.pd (I n)] [B true])
include Na
theorem HI(H:Type)(enc:TypeId×Value->H)(W:World)(base:Nat)(args:Array Value)(ds Q:List (DataW H))(d:List MemPlace)
  (l:∀(j:Nat) t v,ee.params[j]? =some t->args[j]? =some v->lP aa W .any base t v)
  (J:DataW.Whole enc aa ee.params.toList Rows.taskRefusesSpec.vars false W args.toList ds Q d)(hk:Rows.uptoBulkAll (ds++Q)<=1048576)(hL:laidMetH aa Rows.taskRefusesUptoRow.laid W):
  Calls aa 4 args W λe U=>∃v,e= .returned v/\Rows.taskRefusesSpec.post enc aa ee false true false false W args v U:=by
 have A:=J;obtain⟨p,q,g,hV,rfl,hfz,hnd⟩:=J;have K:DataW.TrodAll enc aa W 0 (λ_=>true) true ee.params.toList args.toList ds p:=g;rw [Tryz.params4]at K l;obtain⟨G,vs0,d0,ds0,p0,q0,z,rfl,rfl,k,r⟩:=trodAll_cons K;obtain⟨E,vs1,d1,ds1,p1,q1,rfl,rfl,rfl,P,r1⟩:=trodAll_cons r;obtain⟨D,vs2,d2,ds2,p2,q2,rfl,rfl,rfl,O,r2⟩:=trodAll_cons r1;obtain⟨C,vs3,d3,ds3,p3,q3,rfl,rfl,rfl,M,r3⟩:=trodAll_cons r2;obtain⟨rfl,rfl,rfl⟩:=trodAll_nil r3;obtain rfl:args= #[G,E,D,C]:=by cases args;simp_all
 obtain⟨rfl,rfl⟩:=trodVars_none hV;obtain⟨c0,rfl,s0⟩:=okWide_struct sd (l 0 44 G rfl rfl);obtain⟨x1,l1,rfl⟩:=Tc lL (l 1 5 E rfl rfl);obtain⟨Z,l2,rfl⟩:=Tc lL (l 2 5 D rfl rfl);obtain⟨X,rfl⟩:=Cn cM (l 3 3 C rfl rfl);have s:∀x∈p0,x.block<W.heap.size:=by obtain⟨m,a⟩:=k;exact nb m _ _ _ a
 have o:∀x∈p1,x.block<W.heap.size:=by obtain⟨m,a⟩:=P;exact nb m _ _ _ a
 have n:∀x∈p2,x.block<W.heap.size:=by obtain⟨m,a⟩:=O;exact nb m _ _ _ a
 have L:∀x∈p3,x.block<W.heap.size:=by obtain⟨m,a⟩:=M;exact nb m _ _ _ a
 have k0:=k;have k1:=P;have k2:=O;have k3:=M;simp only [el,Rows.uptoBulkAll]at hk;obtain⟨T,k⟩:=k;obtain⟨⟨m,N⟩,_,a,e0⟩:=(Ni T).2 T (a3 _) _ _ k (by show Rows.uptoBulk d0<=_;omega);have f:=U4 (show laidMetH aa TU W from hL);have r:aH W (Pub.heap W) (.agg c0) (IX m N):=PH (by rw [s0,zP];rfl) e0;clear g;refine((Na m N x1 Z X a.1 a.2 l1 l2).2 W (Pub.heap W) _ f rfl (λi hi=>?_)).mono λe U ⟨v,he,u,b⟩=>?_
 ·match i,hi with
  |0,_=>exact r
  |1,_=>exact .raw _ rfl
  |2,_=>exact .raw _ rfl
  |3,_=>exact .raw _ rfl
 ·subst he
  have u:v= .bool true:=aH.aC u;subst u;exact⟨_,rfl,_,_,_,[],_,[],A,trodAll_mk1 (shut_bool Tryz.underlying4 _),(nr (Below.trod laidOut qq (fN qq) k0 b s) (nr (Below.trod laidOut qq (fN qq) k1 b o) (nr (Below.trod laidOut qq (fN qq) k2 b n) (nr (Below.trod laidOut qq (fN qq) k3 b L) trodAll_mk0)))),rfl,b.frame _,λh=>xa⟩
omit Na in
theorem HJ(o:Os):laidMet aa Rows.taskRefusesUptoRow.laid ((LU o).forCall (λ_ _=>0) ⟨#[],Us,[]⟩).memory:=
 laidMet_of_run' 8 qq qq
omit Na in
theorem UI(o:Os){H:Type}(enc:TypeId×Value->H):∃places,DataW.whole enc aa ((LU o).forCall (λ_ _=>0) ⟨#[],Us,[]⟩).memory ee.params.toList Rows.taskRefusesSpec.vars false Us.toList 8=some ([.agg [.agg [.agg [.nil],.nil,.nil,.nil,.nil,.nil,.nil],.nil,.nil,.nil,.nil,.agg [.lit (.int .i64 0),.nil,.nil],.agg [.nil],.nil],.lit (.int .u8 0),.lit (.int .u8 0),.lit (.int .i64 0)],[],places):=
 ⟨[],qq⟩
theorem lifted4(o:Os)(d:o.Started)(H:Type)(enc:TypeId×Value->H)(F:Stop.Interp):
  ReturnsInHanded {} nw o 4 .any ((Rows.OpenSpec.upto Rows.taskRefusesSpec).preRow enc aa ee Rows.taskRefusesUptoRow.domain false Rows.taskRefusesUptoRow.laid) (((Rows.OpenSpec.upto Rows.taskRefusesSpec).at F).post enc aa ee false true false false):=by
 obtain⟨p,x⟩:=UI o enc
 refine returnsInHanded_of_row (C:=nw) (s:=Rows.OpenSpec.upto Rows.taskRefusesSpec) asF d qq ns
  (witness_row_at (enc:=enc) (C:=nw) false (LU o) Us rfl qq qq qq
   (OpenSpec.preRow_of_cond 8 x qq (λk f=>by cases f;rfl) qq (HJ o))) ?_
 intro W e a D G b h g _ f _ L _ _;exact HI Na H enc W e a D G b h g (fN (f _ rfl)) L
theorem arl:Rows.TaskRefusesUptoSaid:=
 OpenClaim.holds_of_cond 4 ee rfl rfl rfl rfl rfl rfl rfl ⟨rfl,rfl,rfl,rfl,rfl⟩ rfl rfl rfl rfl rfl Uv ns Nm arh ari
  (λo s H e _ F=>by rw [OpenClaim.pre_eq_preRow];exact lifted4 Na o s H e F)
theorem arn:Rows.TaskRefusesUptoCardSaid:=
 Claim7.holds_tied_plain_at .later [] _ _ _ _ (arl Na) (λ_ h=>xa) wf4 (λ_ h=>xa) taskRefusesUpto_row_tie rfl ⟨rfl,rfl⟩ arj rfl UB ark
end
theorem taskRefuses_card:Rows.TaskRefusesUptoCardSaid:=arn λm N r b n d a H h=>Nf m N r b n d a H h
end Go.Proofs.YtgeljjfmcmbejaaGreatDoor
