/- A part of the proof. -/
import Derived.Test.YtgeljjfmcmbejaaGreatDoorPBv
import Derived.Shelf.SlSortCmp.NoneTotal
set_option linter.all false
set_option linter.deprecated false
open Go.Sort renaming grow→eK,ahead→kO
open Go.World renaming setRow→kr
open Nat renaming add_zero→ga
set_option maxRecDepth 100000
set_option maxHeartbeats 4000000
namespace Go.au
open Go.Sort Go.Shelf Go.Lib Go.Proofs
variable {b i cap:Nat}{cur:Array Value}{e:TypeId}{G:Pub}{u v:Value}{f:FuncId}{x:Operand}
section
variable {C:Cx}{s:St}{a:Act}{w w':World}{E:Env}{P:Program}{k:List KI}{all:Array Oper}{l:List Oper}{o:Oper}
def aB.drewN(g:aB C s a w E)(n:Nat):aB C s a (w.drewN n) E:=by
 have h:=g.grow (w':=w.drewN n) ⟨⟨rfl,rfl,rfl,a3 _,λ_ _=>rfl⟩,lA _ _⟩ E.G (λ_ _ h=>h) (λ_ _ h=>.inl h);exact h
def below_grow(w:World)(o:Array Obj):Below w.heap.size w (eK w o):=
 ⟨⟨rfl,rfl,rfl,by simp [eK],λb h=>by simp only [eK];rw [eN h]⟩,a3 _⟩
def aB.grown(g:aB C s a w E)(o:Array Obj):aB C s a (eK w o) E:=by
 have h:=g.grow (below_grow w o) E.G (λ_ _ h=>h) (λ_ _ h=>.inl h);exact h
def Below.Yq(h:Below w.heap.size w w'):∃q s,w'=eK (w.drewN q) s:=by
 refine⟨w'.drawn-w.drawn,w'.heap.extract w.heap.size w'.heap.size,?_⟩;have b:=h.drawn
 have H:w'.heap=w.heap++w'.heap.extract w.heap.size w'.heap.size:=by
  apply ir;intro i
  by_cases c:i<w.heap.size
  ·rw [eN c];exact h.block i c
  ·rw [p7 qk,Array.getElem?_extract]
   have:=h.size
   split
   ·congr 1;omega
   ·rw [pE];omega
 obtain⟨p,T,r,s,u⟩:=w;obtain⟨a,t,D,O,o⟩:=w';have d:O=s:=h.os;have E:t=T:=h.tape;have e:o=u:=h.output;subst d E e;simp only [eK,World.drewN,World.mk.injEq,eL,gz];simp only at b H;exact⟨H,qk⟩
def Td{fr:Nat×Nat}(H:w.heap[b]? =some (.cells cur e fr))(F:Array Value):putRow id w b 0 F=w.setRow b (putCells id 0 F cur):=by
 unfold putRow mapBlock kr
 congr 1
 apply ir;intro i;simp only [fg]
 split
 ·rename_i h;subst h;simp [H,onCells]
 ·rfl
def Dp(m:Mine C G w b cur e)(i:Nat):w.frozen? ⟨b,i,none⟩=false:=by
 simp [World.frozen?,m.2.2]
structure Elem(w:World)(G:Pub){T:Type}(enc:T->PD)(k:Nat)(l:List T) where
 x:T
 vs:List Value
 mem:x∈l
 len:vs.length=k
 one:∀v∈vs,v.oneCell'=true
 rd:∀j,j<k->Rd w G (vs.getD j undef) ((enc x).cell j)
def aH.Rg{d:PD}{cs:Array Value}(H:d.fZ=true)(s:cs.size=d.width)(h:∀j,j<d.width->Rd w G (cs.getD j undef) (d.cell j)):aH w G (.agg cs) d:=by
 cases d with
 |ak D=>exact⟨cs,rfl,s,h⟩
 |_=>cases H
def TW(P:Program)(w:World)(G:Pub)(v:Value)(F:List PD->PD->Prop):Prop:=
 ∃f caps,v= .func (.func f) #[] caps/\aF P f/\
  ∀a b,Keeps w G a b->Good a b->∀d r (vals:Array Value),F d r->vals.size=d.length->
   (∀j,j<d.length->aH a b (vals.getD j undef) (d.getD j (.ak [])))->Calls P f (vals++caps) a (DI a b [r])
def Vd{F:Array Value}(h:F.size<=cur.size)(t:Nat)(H:t<F.size):(putCells id 0 F cur).getD t undef=F[t]!:=by
 have:t<cur.size:=qk;simp [putCells,Array.getD,this,H]
def H9(m:Mine C G w b cur e)(i:Nat)(hi:i<cur.size):w.cell? ⟨b,i,none⟩=some (cur.getD i undef):=by
 simp [World.cell?,m.2.2,Array.getD,hi]
def IT{ρ:Ren}(L:SlLaysF0.n6 C.P ρ){T:Type}(enc:T->PD)(n:Nat)(hn:n≠0)(aE:bT C.P (ρ.t 24)=true)(kE:aQ C.P (ρ.t 24)=true)(zE:aP C.P (ρ.t 24)=n)(c:T->T->Int)(lt:List T)(hO:SWO (ltOf c))(hw:∀x,(enc x).width=n)(ht:∀x,(enc x).fZ=true)
  (g:aB C s a w E)(hr:s.row i=some ⟨e,n,lt.map enc⟩)(hu:Rel C.P w E s.row u (.own i))(hv:TW C.P w E.G v (λes r=>∃x∈lt,∃y∈lt,es=[enc x,enc y]/\r= .raw (.int .i64 (c x y))))(hl:lt.length<4611686018427387904):
  Calls C.P (ρ.f 6) #[u,v] w λen w'=>en= .returned (.tuple #[])/\∃(l':List T) (E':Env),l'.Perm lt/\l'.Pairwise (λx y=>¬c y x<0)/\aB C (s.setRow i ⟨e,n,l'.map enc⟩) a w' E':=by
 obtain⟨f,caps,rfl,hent,hcall⟩:=hv
 have same:lt=[]->aB C (s.setRow i ⟨e,n,([]:List T).map enc⟩) a w E:=by
  rintro rfl;refine g.weak ⟨rfl,λ_=>.same _,λt cs h=>⟨cs,h,rfl,λ_ _=>.same _⟩,λj r h=>?_,λ_ _ h=>h,λ_=>.same _⟩;simp only [St.row,St.setRow,jR]at h
  split at h
  ·rename_i he;subst he;cases h;exact hr
  ·exact h
 rcases hu _ hr with⟨hb,rfl⟩|⟨b,cap,hb,rfl⟩
 ·have H:lt=[]:=by have:=g.nX i _ hr hb;simpa using this
  refine(AnyF.slices_SortFunc_none L none 0 _ w).mono ?_;rintro e' w' ⟨rfl,rfl⟩;exact⟨rfl,[],E,by rw [H],.nil,same H⟩
 ·by_cases H:lt=[]
  ·have hz:(lt.map enc).length=0:=by simp [H]
   simp only [hz];refine(AnyF.slices_SortFunc_none L _ cap _ w).mono ?_;rintro e' w' ⟨rfl,rfl⟩;exact⟨rfl,[],E,by rw [H],.nil,same H⟩
  ·rcases g.rows i _ hr with⟨h1,_⟩|⟨b',cap',A,h1,m,P,hle,hmax,Zp,hrd⟩
   ·rw [h1]at hb;cases hb
   rw [h1]at hb;cases hb;simp only [al]at hle Zp hrd P;have hpos:0<lt.length:=mT.2 H;have henc:∀j (h:j<lt.length),(lt.map enc).getD j (.ak [])=enc lt[j]:=λj h=>by simp [h]
   have K:lt.length*n<=A.size:=by rw [P];exact c9 n hle
   have P6:∀k (G:k<lt.length) j,j<n->Rd w E.G (A.getD (k*n+j) undef) ((enc lt[k]).cell j):=λk G j l=>by have:=hrd k j G l;rwa [henc k G]at this
   let mk:(j:Nat)->j<lt.length->Elem w E.G enc n lt:=λj l=>
    {x:=lt[j],vs:=(List.range n).map λq=>A.getD (j*n+q) undef,mem:=am l,len:=qr,
     one:=λv hv=>by
      simp only [aq,cd]at hv;obtain⟨q,N,rfl⟩:=hv;exact(P6 j l q N).oneCell
     rd:=λq N=>by simpa [N]using P6 j l q N}
   letI:Inhabited (Elem w E.G enc n lt):=⟨mk 0 hpos⟩
   let d:Array (Elem w E.G enc n lt):=Array.ofFn λj:Fin lt.length=>mk j.1 j.2
   have o:d.size=lt.length:=by simp [d]
   have hdi:∀j (h:j<lt.length),d[j]! =mk j h:=λj h=>by
    rw [cp d j (by rw [o];exact h)];simp [d]
   have hmod:∀t,t/n*n+t % n=t:=λt=>by rw [iB];exact Nat.div_add_mod t n
   have hH:HoldsK (λx:Elem w E.G enc n lt=>x.vs) n w b 0 d:=by
    intro t hT;rw [size_flatK,o]at hT;refine⟨?_,Dp m _⟩;rw [cx,H9 m t qk,get_flatK _ _ _ _ (by rw [o];exact hT)];have N:t/n<lt.length:=Nat.div_lt_of_lt_mul (by rw [iB];exact hT);have hr':t % n<n:=Nat.mod_lt _ (qD hn);rw [hdi _ N];simp only [mk,id];rw [cp _ _ (uu hr')];simp [hmod t]
   have J:∀M O (dk:Array (Elem w E.G enc n lt)),sortWorldK (λx:Elem w E.G enc n lt=>x.vs) n w b 0 M dk O=eK ((w.setRow b (putCells id 0 (flatK (λx=>x.vs) n dk) A)).drewN M) O:=by
    intro M O dk;unfold sortWorldK putRowK;rw [putRow_ahead,Td m.2.2];rfl
   have Z:∀M O F,Keeps w E.G (eK ((w.setRow b F).drewN M) O) E.G:=by
    intro M O F;refine(kD (w:=w) F m.2.1).trans ?_;exact Keeps.of_below (n:=(w.setRow b F).heap.size) (λb' o' h=>by simpa [kr]using g.gw b' o' h) ((⟨⟨rfl,rfl,rfl,a3 _,λ_ _=>rfl⟩,lA _ _⟩:Below (w.setRow b F).heap.size (w.setRow b F) ((w.setRow b F).drewN M)).trans (below_grow ((w.setRow b F).drewN M) O)) (λ_ _ h=>h)
   have hcmp:CmpLays C.P f caps (λx:Elem w E.G enc n lt=>x.vs) n (λx y=>c x.x y.x) b 0 d.size w:=by
    intro M O dk _ x y;rw [J];have G:=Z M O (putCells id 0 (flatK (λx=>x.vs) n dk) A)
    have hg:Good (eK ((w.setRow b (putCells id 0 (flatK (λx=>x.vs) n dk) A)).drewN M) O) E.G:=⟨λb' o' h=>by
     have:=g.gw b' o' h;simp [eK,World.drewN,kr];omega,g.tab.keep G⟩
    have rdE:∀z:Elem w E.G enc n lt,aH (eK ((w.setRow b (putCells id 0 (flatK (λx=>x.vs) n dk) A)).drewN M) O) E.G (.agg z.vs.toArray) (enc z.x):=λz=>
     aH.Rg (ht _) (by simp [z.len,hw]) (λj l=>by
      rw [hw]at l;have:=(z.rd j l).keep G;simpa [aL,ag]using this)
    refine(hcall _ E.G G hg [enc x.x,enc y.x] _ #[.agg x.vs.toArray,.agg y.vs.toArray] ⟨x.x,x.mem,y.x,y.mem,rfl,rfl⟩ rfl (λj l=>?_)).mono ?_
    ·match j,l with
     |0,_=>exact rdE x
     |1,_=>exact rdE y
    ·rintro e' w' ⟨v,rfl,hv,hbel⟩
     have:v= .int .i64 (c x.x y.x):=aH.aC hv;subst this;exact⟨rfl,hbel.Yq⟩
   have hO':SWO (ltOf λx y:Elem w E.G enc n lt=>c x.x y.x):=⟨λx=>hO.irrefl x.x,λx y z=>hO.trans x.x y.x z.x,λx y z=>hO.ntrans x.x y.x z.x⟩;have hlen:(lt.map enc).length=d.size:=by rw [o];simp
   simp only [hlen];refine(AnyQ.slices_SortFunc L n (λw=>by rw [Ai kE,aE]) (λw=>by rw [jf (by rw [zE];exact hn),zE]) (λx:Elem w E.G enc n lt=>x.vs) (λx=>x.len) (λx=>x.one) (λx y=>c x.x y.x) hO' f caps b 0 cap d w hent hcmp hH m.lt (by rw [o];exact hl)).mono ?_;rintro e' w' ⟨rfl,D,q,O,⟨X,_,hp2⟩,hs',rfl⟩;rw [J];have P7:D.size=lt.length:=by rw [X,o]
   have U:D.toList.Perm d.toList:=by
    have e1:D.extract 0 d.size=D:=by rw [<-X];simp
    have e2:d.extract 0 d.size=d:=qr;rw [e1,e2]at hp2;exact hp2
   have hdl:d.toList.map (·.x)=lt:=by
    apply cJ
    ·simp [o]
    ·intro j h1 h2
     have l:j<d.size:=uu h1;have h3:=hdi j (by rw [<-o];exact l);rw [cp d j l]at h3;simp only [ei,Array.getElem_toList,h3,mk]
   refine⟨rfl,D.toList.map (·.x),E,(U.map _).trans (by rw [hdl]),?_,?_⟩
   ·rw [cB]
    intro p q hp N hpq;have hp':p<D.size:=uu hp;have Q:q<D.size:=uu N;have:=hs' p q (db _) hpq (by rw [X]at Q;exact Q);rw [cp D p hp',cp D q Q]at this;simpa [ltOf]using this
   ·have hfs:(flatK (λx:Elem w E.G enc n lt=>x.vs) n D).size=lt.length*n:=by rw [size_flatK,P7]
    refine aB.grown (aB.drewN (g.He hr h1 ((D.toList.map (·.x)).map enc) (putCells id 0 (flatK (λx=>x.vs) n D) A) (by simp [P7]) (by simp [putCells,P]) (λk G=>?_) (λk j G l=>?_)) q) O
    ·simp only [al,Array.length_toList]at G
     simp only [cr,ag,cU];simp [G,hw]
    ·have l:j<n:=l
     simp only [al,Array.length_toList]at G
     have hkn:k*n+j<lt.length*n:=by
      have:(k+1)*n<=lt.length*n:=c9 n (by rw [<-P7];exact G);rw [d7]at this;omega
     rw [Vd (by rw [hfs];exact K) _ (by rw [hfs];exact hkn),get_flatK _ _ _ _ (by rw [P7];exact hkn)];have e1:(k*n+j)/n=k:=by rw [iB,Nat.mul_add_div (qD hn),Nat.div_eq_of_lt l,ga]
     have e2:(k*n+j) % n=j:=by rw [iB,Nat.mul_add_mod,Nat.mod_eq_of_lt l]
     rw [e1,e2,cp D k G];have:=(D[k]).rd j l;have hjl:j<(D[k]).vs.length:=by rw [(D[k]).len];exact l
     rw [cp (D[k]).vs j hjl];have e3:((D.toList.map (·.x)).map enc).getD k (.ak [])=enc (D[k]).x:=by simp [G]
     rw [e3];simpa [hjl]using this
def qx.to0{F:List PD->PD->Prop}(h:qx P w G v F)(H:∃f caps,v= .func (.func f) #[] caps):TW P w G v F:=by
 obtain⟨f,first,caps,rfl,d,i⟩:=h;obtain⟨m,A,e⟩:=H
 cases e
 exact⟨f,caps,rfl,d,λa l k g D r vals j s b=>uu (i a l k g D r vals j s b)⟩
inductive Cmp(P:Program)(F:List PD->PD->Prop):SV->Prop
 |func (f:FuncId) (he:aF P f) (h:∀ds r,F ds r->aG P f (ds.map .pd) [r]):Cmp P F (.pd (.raw (.func (.func f) #[] #[])))
 |clo (f:FuncId) (ds:List PD) (he:aF P f) (h:∀es r,F es r->aG P f (es.map .pd++ds.map λd=>.ref d 0) [r]):Cmp P F (.pd (.clo f ds))
def Cmp.ok{F:List PD->PD->Prop}{y:SV}(h:Cmp C.P F y)(g:aB C s a w E)(H:Rel C.P w E s.row v y):TW C.P w E.G v F:=by
 cases h with
 |func f e h=>
  have d:qx C.P w E.G v F:=Co.ok g (l:=false) (.func f F e h) H;have:=aH.aC H;subst this;exact d.to0 ⟨f,#[],rfl⟩
 |clo f D e h=>
  have d:qx C.P w E.G v F:=Co.ok g (l:=false) (.QG f D F e h) H
  cases H with
  |clo _ _ bs j k Q b i=>exact d.to0 ⟨f,_,rfl⟩
def R.Zq{ρ:Ren}(L:SlLaysF0.n6 C.P ρ){y:Operand}{m:Array TypeId}{T:Type}(enc:T->PD)(n:Nat)(c:T->T->Int)(lt:List T)(X:ρ.f 6=f)(Z:aF C.P f)(N:o.op= .call ⟨.value (.func f),#[x,y],m⟩)(U:o.guard=none)(hd:dN s o)(u:aO s x= .own i)(J:s.row i=some ⟨e,n,lt.map enc⟩)
  (O:n≠0)(aE:bT C.P (ρ.t 24)=true)(q:aQ C.P (ρ.t 24)=true)(z:aP C.P (ρ.t 24)=n)(A:∀x,(enc x).width=n)(D:∀x,(enc x).fZ=true)(hO:SWO (ltOf c))(Q:lt.length<4611686018427387904)
  (hc:Cmp C.P (λes r=>∃x∈lt,∃y∈lt,es=[enc x,enc y]/\r= .raw (.int .i64 (c x y))) (aO s y))
  (next:∀b:List T,b.Perm lt->b.Pairwise (λx y=>¬c y x<0)->R C (.ops all l::k) ((s.setRow i ⟨e,n,b.map enc⟩).put o.dst .dead)):R C (.ops all (o::l)::k) s:=by
 intro a w E g;refine wpList_plain U λK hK=>?_;have d:=fJ (P:=C.P) (w:=w) Z a.eval o (.func f) #[x,y] m #[] N #[] rfl;unfold Oper.wp;rw [d,Oper.upon_enter];have p:=aT g x;rw [u]at p;have h2:=hc.ok g (aT g y);have H:=IT L enc n O aE q z c lt hO A D g J p h2 Q;rw [X]at H;have e1:(#[]++(#[x,y]:Array Operand).map a.eval++ #[]:Array Value)= #[a.eval x,a.eval y]:=qr;rw [e1];refine H.mono ?_;rintro en w' ⟨rfl,b,E',M,G,g'⟩;have j:bU (s.setRow i ⟨e,n,b.map enc⟩) o:=λt h=>ah hd t h;exact hK _ _ (next b M G _ _ _ (g'.eY j (v:=.dead) trivial qr))
end
section
variable {C:Cx}{s:St}{a:Act}{w w':World}{E:Env}{P:Program}{k:List KI}{all:Array Oper}{l:List Oper}{o:Oper}
variable {T:Type}[Inhabited T](enc:T->Value)
def D9{fr:Nat×Nat}(H:w.heap[b]? =some (.cells cur e fr))(q:Nat)(F:Array T):putRow enc (kO w q) b 0 F=(w.setRow b (putCells enc 0 F cur)).drewN q:=by
 rw [putRow_ahead]
 have:putRow enc w b 0 F=w.setRow b (putCells enc 0 F cur):=by
  unfold putRow mapBlock kr
  congr 1
  apply ir;intro i;simp only [fg]
  split
  ·rename_i h;subst h;simp [H,onCells]
  ·rfl
 rw [this];rfl
def GH{F:Array T}(h:F.size<=cur.size)(t:Nat)(H:t<F.size):(putCells enc 0 F cur).getD t undef=enc F[t]!:=by
 have:t<cur.size:=qk;simp [putCells,Array.getD,this,H]
abbrev eH(lt:List T):List PD:=lt.map λx=>.raw (enc x)
def aB.holds1(g:aB C s a w E){lt:List T}(r:s.row i=some ⟨e,1,eH enc lt⟩)(j:E.rb i=some (b,cap)):
  Holds enc w b 0 lt.toArray/\b<w.heap.size/\lt.length<=cap/\cap<=maxLen/\∃cur,Mine C E.G w b cur e/\cur.size=cap:=by
 rcases g.rows i _ r with⟨l,_⟩|⟨q,n,cur,l,m,H,f,x,Z,d⟩
 ·rw [l]at j;cases j
 rw [l]at j;cases j;simp only [al,cQ]at f d H;refine⟨λt h=>?_,m.lt,f,x,cur,m,H⟩;have h:t<lt.length:=uu h;refine⟨?_,Dp m _⟩;have k:=d t 0 h qr;have p:(eH enc lt).getD t (.ak [])= .raw (enc lt[t]):=by simp [eH,h]
 rw [p]at k;simp only [ga]at k;have o:cur.getD t undef=enc lt[t]:=aH.aC (Rd.tV k);rw [cx,H9 m t qk,o,cp lt.toArray t (uu h)];simp
def aB.asH(g:aB C s a w E){lt:List T}(t:∀x,(enc x).oneCell'=true)(k:s.row i=some ⟨e,1,eH enc lt⟩)(o:E.rb i=some (b,cap))(hr0:C.fP i=none)(q:Nat)(F:Array T)(l:List T)(O:F.size=lt.length)(N:l.length<=F.size)(hp:∀j (h:j<l.length),F[j]! =l[j]):
  aB C (s.newRow i ⟨e,1,eH enc l⟩) a (putRow enc (kO w q) b 0 F) {E with rb:=λj=>if j=i then some (b,cap)else E.rb j}:=by
 obtain⟨_,G,A,d,r,m,z⟩:=g.holds1 enc k o;rw [D9 enc m.2.2];have D:Keeps w E.G (w.setRow b (putCells enc 0 F r)) E.G:=kD _ m.2.1
 have K:=g.row (i:=i) (r':=⟨e,1,eH enc l⟩) (w':=w.setRow b (putCells enc 0 F r)) (some (b,cap)) D (tY g.kept _ m.1) (by simp [kr]) (λp hp=>jb)
  (λv J n=>setRow_other w b v _ (λM=>n _ _ k o M))
  (.inr ⟨b,cap,putCells enc 0 F r,rfl,m.set,by simp [putCells,z],qz,d,λj H=>?_,λj q H f=>?_⟩) (λv u h=>by cases h;exact .inr ⟨_,_,k,o,rfl⟩)
 ·exact K.drewN q
 ·simp only [al]at H
  simp [eH,H,PD.width]
 ·simp only [al]at H
  have f:q=0:=by simp at f;exact f
  subst f;simp only [cQ,ga];rw [GH enc qk j qk,hp j H];have L:(eH enc l).getD j (.ak [])= .raw (enc l[j]):=by simp [eH,H]
  rw [L];exact .raw _ (t _)
def aB.VC(g:aB C s a w E){lt:List T}(f:∀x,(enc x).oneCell'=true)(k:s.row i=some ⟨e,1,eH enc lt⟩)(o:E.rb i=some (b,cap))(q:Nat)(F:Array T)(l:List T)(D:F.size=lt.length)(A:l.length=F.size)(p:∀j (h:j<l.length),F[j]! =l[j]):
  aB C (s.setRow i ⟨e,1,eH enc l⟩) a (putRow enc (kO w q) b 0 F) E:=by
 obtain⟨_,u,t,n,r,m,z⟩:=g.holds1 enc k o;rw [D9 enc m.2.2]
 have G:=g.He k o (eH enc l) (putCells enc 0 F r) qz (by simp [putCells,z]) (λj H=>by
  simp only [al]at H;simp [eH,H,PD.width]) (λj q H d=>by
  simp only [al]at H;have d:q=0:=by simp at d;exact d
  subst d;simp only [cQ,ga];rw [GH enc qk j qk,p j H];have v:(eH enc l).getD j (.ak [])= .raw (enc l[j]):=by simp [eH,H]
  rw [v];exact .raw _ (f _))
 exact G.drewN q
structure JM(P:Program)(f:FuncId)(qH:List T->List T):Prop where
 ent:aF P f
 len:∀zs,(qH zs).length=zs.length
 some:∀blk off cap zs w,Holds enc w blk off zs.toArray->blk<w.heap.size->zs.length<4611686018427387904->
  Calls P f #[.slice (some ⟨blk,off,none⟩) zs.length cap] w λe w'=>e= .returned (.tuple #[])/\∃n os,w'=eK (putRow enc (kO w n) blk off (qH zs).toArray) os
 none:∀p cap w,Calls P f #[.slice p 0 cap] w λe w'=>e= .returned (.tuple #[])/\w'=w
def Jn{qH:List T->List T}(S:JM enc C.P f qH)(m:∀x,(enc x).oneCell'=true)(g:aB C s a w E){lt:List T}(H:s.row i=some ⟨e,1,eH enc lt⟩)(v:Rel C.P w E s.row u (.own i))(A:lt.length<4611686018427387904):
  Calls C.P f #[u] w λJ w'=>J= .returned (.tuple #[])/\∃E',aB C (s.setRow i ⟨e,1,eH enc (qH lt)⟩) a w' E':=by
 have same:lt=[]->aB C (s.setRow i ⟨e,1,eH enc (qH lt)⟩) a w E:=by
  rintro rfl;have:qH []=[]:=d8.1 (by rw [S.len];rfl);rw [this];refine g.weak ⟨rfl,λ_=>.same _,λt M h=>⟨M,h,rfl,λ_ _=>.same _⟩,λj r h=>?_,λ_ _ h=>h,λ_=>.same _⟩;simp only [St.row,St.setRow,jR]at h
  split at h
  ·rename_i D;subst D;cases h;exact H
  ·exact h
 rcases v _ H with⟨d,rfl⟩|⟨b,p,d,rfl⟩
 ·have l:lt=[]:=by have:=g.nX i _ H d;simpa [eH]using this
  refine(S.none Option.none 0 w).mono ?_;rintro L w' ⟨rfl,rfl⟩;exact⟨rfl,E,same l⟩
 ·obtain⟨G,k,z,n,_⟩:=g.holds1 enc H d
  have K:(eH enc lt).length=lt.length:=by simp [eH]
  simp only [K];refine(S.some b 0 p lt w G k A).mono ?_;rintro L w' ⟨rfl,q,o,rfl⟩;exact⟨rfl,E,(g.VC enc m H d q (qH lt).toArray (qH lt) (by simp [S.len]) qr (λj h=>by rw [cp _ _ (uu h)];simp)).grown o⟩
def R.TY{j:Array TypeId}{qH:List T->List T}(S:JM enc C.P f qH)(d:∀x,(enc x).oneCell'=true)(lt:List T)(p:o.op= .call ⟨.value (.func f),#[x],j⟩)(u:o.guard=none)(z:dN s o)(n:aO s x= .own i)(r:s.row i=some ⟨e,1,eH enc lt⟩)(q:lt.length<4611686018427387904)
  (next:R C (.ops all l::k) ((s.setRow i ⟨e,1,eH enc (qH lt)⟩).put o.dst .dead)):R C (.ops all (o::l)::k) s:=by
 intro a w E g;refine wpList_plain u λK A=>?_;have H:=fJ (P:=C.P) (w:=w) S.ent a.eval o (.func f) #[x] j #[] p #[] rfl;unfold Oper.wp;rw [H,Oper.upon_enter];have m:=aT g x;rw [n]at m;have D:(#[]++(#[x]:Array Operand).map a.eval++ #[]:Array Value)= #[a.eval x]:=qr;rw [D];refine(Jn enc S d g r m q).mono ?_;rintro L J ⟨rfl,M,G⟩;have b:bU (s.setRow i ⟨e,1,eH enc (qH lt)⟩) o:=λt h=>ah z t h;exact A _ _ (next _ _ _ (G.eY b (v:=.dead) trivial qr))
structure Ve(P:Program)(f:FuncId)(cut:List T->List T):Prop where
 ent:aF P f
 len:∀zs,(cut zs).length<=zs.length
 some:∀blk off cap zs w,Holds enc w blk off zs.toArray->zs.length<=9223372036854775807->zs.length<=cap->
  Calls P f #[.slice (some ⟨blk,off,none⟩) zs.length cap] w λe w'=>e= .returned (.slice (some ⟨blk,off,none⟩) (cut zs).length cap)/\∃(q:Nat) (F:Array T),F.size=zs.length/\(∀j (h:j<(cut zs).length),F[j]! =(cut zs)[j])/\w'=putRow enc (kO w q) blk off F
 none:∀p cap w,Calls P f #[.slice p 0 cap] w λe w'=>e= .returned (.slice p 0 cap)/\w'=w
def R.Vf{M:Array TypeId}{cut:List T->List T}(S:Ve enc C.P f cut)(G:∀x,(enc x).oneCell'=true)(lt:List T)(Z:o.op= .call ⟨.value (.func f),#[x],M⟩)(hg:o.guard=none)(hd:dN s o)(hr0:C.fP i=none)(X:aO s x= .own i)(u:s.row i=some ⟨e,1,eH enc lt⟩)(hl:lt.length<4611686018427387904)
  (next:R C (.ops all l::k) ((s.newRow i ⟨e,1,eH enc (cut lt)⟩).put o.dst (.own i))):R C (.ops all (o::l)::k) s:=by
 intro a w E g;refine wpList_plain hg λK O=>?_;have H:=fJ (P:=C.P) (w:=w) S.ent a.eval o (.func f) #[x] M #[] Z #[] rfl;unfold Oper.wp;rw [H,Oper.upon_enter];have U:=aT g x;rw [X]at U;have e1:(#[]++(#[x]:Array Operand).map a.eval++ #[]:Array Value)= #[a.eval x]:=qr;rw [e1];have n:bU (s.newRow i ⟨e,1,eH enc (cut lt)⟩) o:=λt h=>ah hd t h;rcases U _ u with⟨z,A⟩|⟨b,d,z,A⟩
 ·have m:lt=[]:=by have:=g.nX i _ u z;simpa [eH]using this
  subst m;have hc:cut []=[]:=d8.1 (by have:=S.len [];simpa using this);rw [A];refine(S.none Option.none 0 w).mono ?_;rintro e' L ⟨rfl,rfl⟩;have J:=g.row (i:=i) (r':=⟨e,1,eH enc (cut [])⟩) (w':=L) Option.none (Keeps.refl _ _) g.kept (a3 _) (λp hp=>jb) (λ_ _ _=>rfl) (.inl ⟨rfl,by rw [hc];rfl⟩) (λb d h=>xa);exact O _ _ (next _ _ _ (J.eY n (v:=.own i) (λr _=>.inl ⟨qr,rfl⟩) qr))
 ·obtain⟨hH,hbs,D,N,_⟩:=g.holds1 enc u z
  have e2:(eH enc lt).length=lt.length:=by simp [eH]
  rw [A];simp only [e2];refine(S.some b 0 d lt w hH qk D).mono ?_;rintro e' L ⟨rfl,q,F,Q,hp,rfl⟩;have J:=g.asH enc G u z hr0 q F (cut lt) Q (by rw [Q];exact S.len lt) hp;refine O _ _ (next _ _ _ (J.eY n (v:=.own i) (λr j=>.inr ⟨b,d,qr,?_⟩) qr));have:r=⟨e,1,eH enc (cut lt)⟩:=by rw [St.iY,af rfl]at j;cases j;rfl
  rw [this];simp [eH]
end
end Go.au
