/- A part of the proof. -/
import Derived.Test.YtgeljjfmcmbejaaGreatDoorPTy
import Derived.Deep.OwnRows
import Derived.Laws.IdiomStrings
set_option linter.all false
set_option linter.deprecated false
open Array renaming replicate→bw,getD→bc
open List renaming contains_eq_mem→Br,replicate→av
set_option maxRecDepth 100000
set_option maxHeartbeats 4000000
namespace Go.au
variable {t q e:TypeId}{x:Operand}
section
variable {all:Array Oper}{P:Program}{Q:Exit->Act->World->Prop}
def kX(L:Array Bool)(f:Nat->Value)(t:Nat):Nat->List (Nat×Value)->Value
 |_,[]=>f t
 |k,(d,v)::D=>if(L.getD k false&&d==t)=true then v else kX L f t (k+1) D
def VE{L:Array Bool}{f:Nat->Value}{t i:Nat}:∀{D:List (Nat×Value)} {k:Nat},i<k->kX (L.setIfInBounds i true) f t k D=kX L f t k D
 | [],_,_=>rfl
 |(d,v)::D,k,h=>by
  have H:(L.setIfInBounds i true).getD k false=L.getD k false:=by simp [aL,im (show i≠k by omega)]
  simp only [kX,H,VE (D:=D) (show i<k+1 by omega)]
def VF{L:Array Bool}{f:Nat->Value}{t i d:Nat}{v:Value}(hi:i<L.size):∀{D:List (Nat×Value)} {k:Nat},(D.map (·.1)).Nodup->k<=i->D[i-k]? =some (d,v)->kX (L.setIfInBounds i true) f t k D=if d=t then v else kX L f t k D
 | [],_,_,_,h=>xy
 |(g,j)::D,k,n,l,h=>by
  simp only [ap,dE]at n
  by_cases e:i=k
  ·subst e
   simp only [nt,List.getElem?_cons_zero,bo,dz]at h;obtain⟨rfl,rfl⟩:=h;have a:(L.setIfInBounds i true).getD i false=true:=by simp [aL,hi]
   simp only [kX,a,eJ,cy,VE (D:=D) (show i<i+1 by omega)]
   by_cases c:g=t
   ·simp [c]
   ·simp [c]
  ·have a:(L.setIfInBounds i true).getD k false=L.getD k false:=by simp [aL,im e]
   have b:D[i-(k+1)]? =some (d,v):=by
    have:i-k=(i-(k+1))+1:=qk;rw [this]at h;simpa using h
   simp only [kX,a,VF hi n.2 qk b]
   by_cases c:d=t
   ·have H:g≠t:=by
     rintro rfl;exact n.1 (aq.2 ⟨(d,v),mS b,c⟩)
    simp [c,H]
   ·simp [c]
def Rl{f:Nat->Value}{t n:Nat}:∀{D:List (Nat×Value)} {k:Nat},kX (bw n false) f t k D=f t
 | [],_=>rfl
 |(d,v)::D,k=>by
  have h:(bw n false).getD k false=false:=by simp [bc]
  simp [kX,h,Rl (D:=D)]
def puts(a:Act)(D:List (Nat×Value)):Act:=D.foldl (λa p=>a.put (some p.1) p.2) a
def Ip{n t:Nat}:∀{D:List (Nat×Value)} {a:Act} {k:Nat},(D.map (·.1)).Nodup->(∀p∈D,p.1<a.tmps.size)->k+D.length<=n->(puts a D).tmps.getD t undef=kX (bw n true) (λt=>a.tmps.getD t undef) t k D
 | [],a,k,_,_,_=>rfl
 |(d,v)::D,a,k,b,s,r=>by
  simp only [ap,dE]at b;have u:d<a.tmps.size:=s (d,v) (bk ..);simp only [List.length_cons]at r;have x:(bw n true).getD k false=true:=by simp [bc];omega
  have m:=Ip (n:=n) (t:=t) (D:=D) (a:=a.put (some d) v) (k:=k+1) b.2 (λp h=>by simpa [Act.put]using s p (b3 _ h)) qk;show(puts (a.put (some d) v) D).tmps.getD t undef=_;rw [m];simp only [kX,x,eJ,cy]
  have o:∀(D:List (Nat×Value)) (k:Nat),(∀p∈D,p.1≠d)->kX (bw n true) (λt=>(a.put (some d) v).tmps.getD t undef) t k D=if d=t then(if(D.map (·.1)).contains t then kX (bw n true) (λt=>a.tmps.getD t undef) t k D else v)else kX (bw n true) (λt=>a.tmps.getD t undef) t k D:=by
   intro D
   induction D with
   |nil=>
    intro k _;simp only [kX,dF a d v t u,ax,List.contains_nil,b6,ba]
    by_cases c:d=t
    ·simp [c]
    ·simp [c,bt c]
   |cons q D i=>
    intro k H;have f:=H q (bk ..);simp only [kX,i (k+1) (λp h=>H p (b3 _ h))]
    by_cases c:d=t
    ·subst c
     have g:∀p∈D,p.1≠d:=λp h=>H p (b3 _ h)
     have l:(D.map (·.1)).contains d=false:=by
      simp only [Br,m5,aq,not_exists,not_and];exactλp h=>g p h
     have j:((q::D).map (·.1)).contains d=false:=by
      simp only [Br,m5,aq,not_exists,not_and];exactλp h=>H p h
     rw [l,j];simp [f]
    ·simp [c]
  rw [o D (k+1) (λp h e=>b.1 (aq.2 ⟨p,h,e⟩))]
  by_cases c:d=t
  ·subst c
   have l:(D.map (·.1)).contains d=false:=uu b.1;rw [af rfl,l,ae qr,af rfl]
  ·simp [c]
def Iq:∀{D:List (Nat×Value)} {a:Act},(puts a D).tmps.size=a.tmps.size/\(puts a D).defers=a.defers
 | [],a=>⟨rfl,rfl⟩
 |p::D,a=>by
  have:=Iq (D:=D) (a:=a.put (some p.1) p.2);exact⟨this.1.trans ud,this.2.trans rfl⟩
def OS{a b:Act}(H:a.tmps.size=b.tmps.size)(f:a.defers=b.defers)(h:∀t,a.tmps.getD t undef=b.tmps.getD t undef):a=b:=by
 obtain⟨x,d⟩:=a;obtain⟨y,e⟩:=b;simp only at H f h;subst f
 congr 1
 apply d6 H;intro i j g;have:=h i;simpa [bc,j,g]using this
def Tj{id:Nat}{a:Act}{w:World}(hm:P.follows .mixedOrders=true)(hE:(all.toList.zipIdx).all (λp=>vY p.2 p.1)=true)(D:List (Nat×Value))(W:Array Bool->World)
  (hl:D.length=all.size)(x:(D.map (·.1)).Nodup)(z:∀p∈D,p.1<a.tmps.size)(hW:W (bw all.size false)={w with drawn:=w.drawn+1})
  (N:∀(i:Nat) (o:Oper),all[i]? =some o->o.guard=none/\o.dst=(D[i]?).map (·.1))
  (step:∀(L:Array Bool) (i:Nat) (o:Oper),L.size=all.size->all[i]? =some o->L.getD i false=false->(∀e∈o.after,Region.binds .any e=true->L.getD e.on false=true)->
   (∀(j:Nat) (O:Oper),all[j]? =some O->L.getD j false=true->∀e∈O.after,Region.binds .any e=true->L.getD e.on false=true)->
   ∀A:Act,(∀t,A.tmps.getD t undef=kX L (λt=>a.tmps.getD t undef) t 0 D)->∃v,(D[i]?).map (·.2)=some v/\(execOp A.eval o).run P (W L)= .ok (.value v) (W (L.setIfInBounds i true)))
  (done:Q .normal (puts a D) (W (bw all.size true))):(Code.region id all true).wp P Q a w:=by
 refine KD hm hE (λL A K=>L.size=all.size/\K=W L/\A.tmps.size=a.tmps.size/\A.defers=a.defers/\(∀t,A.tmps.getD t undef=kX L (λt=>a.tmps.getD t undef) t 0 D)/\
   ∀(j:Nat) (O:Oper),all[j]? =some O->L.getD j false=true->∀e∈O.after,Region.binds .any e=true->L.getD e.on false=true) ?_ ?_ ?_
 ·refine⟨qr,hW.symm,rfl,rfl,λt=>(Rl (f:=λt=>a.tmps.getD t undef)).symm,λj O _ h=>?_⟩
  simp [bc]at h
 ·rintro L A K i o J u M l ⟨_,rfl,H,m,b,G⟩
  obtain⟨hg,E⟩:=N i o u;obtain⟨v,hv,s⟩:=step L i o J u M l G A b;have Z:=(bm.1 u).1;obtain⟨⟨d,U⟩,r,rfl⟩:=m6.1 hv;have hd:o.dst=some d:=by rw [E,r];rfl
  have T:d<A.tmps.size:=by rw [H];exact z (d,U) (mS r)
  unfold wpOp;simp only [u];have hw:Region.wanted o (yielded all A.tmps)=true:=by unfold Region.wanted;rw [hg]
  rw [af hw];refine .inl ?_;unfold Oper.wp;rw [s,Oper.upon_value,hd];refine⟨uu J,rfl,by simpa [Act.put]using H,m,λt=>?_,λj O g X e he hb=>?_⟩
  ·rw [VF (by rw [J];exact Z) x (db _) (uu r),dF A d U t T,<-b t]
   by_cases c:d=t
   ·simp [c]
   ·simp [c,bt c]
  ·have C:∀q,L.getD q false=true->(L.setIfInBounds i true).getD q false=true:=by
    intro q hq
    by_cases c:i=q
    ·subst c;simp [aL,J,Z]
    ·rw [aL,im c,<-aL];exact hq
   by_cases c:i=j
   ·subst c
    rw [u]at g;cases g;exact C _ (l e he hb)
   ·rw [aL,im c,<-aL]at X
    exact C _ (G j O g X e he hb)
 ·rintro A K ⟨_,rfl,H,m,b,_⟩
  have:A=puts a D:=OS (by rw [H,Iq.1]) (by rw [m,Iq.2]) (λt=>by rw [b t,Ip (n:=all.size) (k:=0) x z qk]);rw [this];exact done
end
section
variable {C:Cx}{s:St}{a:Act}{w w':World}{E:Env}{k:List KI}{all:Array Oper}{l:List Oper}{o:Oper}
def aB.tO:∀{D:List (Nat×Value)} {s:St} {a:Act},aB C s a w E->(∀p∈D,p.1<s.n)->aB C (D.foldl (λs p=>s.set p.1 .dead) s) (puts a D) w E
 | [],_,_,g,_=>g
 |p::D,s,a,g,h=>aB.tO (D:=D) (g.dead (t:=p.1) (h p (bk ..)) p.2) (λq H=>h q (b3 _ H))
def R.uh{v:SV}(d:o.guard=none)(e:bU s o)(b:∀cs,v≠.box cs)(h:∀a w E,aB C s a w E->∃u,(execOp a.eval o).run C.P w= .ok (.value u) w/\Rel C.P w E s.row u v)
  (next:R C (.ops all l::k) (s.put o.dst v)):R C (.ops all (o::l)::k) s:=by
 intro a w E g;obtain⟨u,H,r⟩:=h a w E g;exact gX d H (next _ _ _ (g.eY e r b))
def R.tP{y:Operand}{sz:Nat}{d:PD}{ds:List PD}(n:o.op= .binOp .neq t x y q)(p:o.guard=none)(r:bU s o)(i:aO s x= .pd (.list sz (d::ds)))(f:aO s y= .pd (.raw (.slice none 0 0)))(m:eu C.P t=some e)
  (next:R C (.ops all l::k) (s.put o.dst (.pd (.raw (.bool true))))):R C (.ops all (o::l)::k) s:=by
 refine R.uh p r qr (λa w E g=>?_) next
 have H:=aT g x;rw [i]at H;have h:=aT g y;rw [f]at h;have h:=aH.aC h;generalize j:a.eval x=v at H;refine⟨.bool true,?_,.raw _ rfl⟩
 cases H with
 |list _ _ b off u z=>
  unfold execOp;simp [n,j,h,eqGuard,binOp,uY m]
def R.tQ{y:Operand}(i:o.op= .binOp .neq t x y q)(j:o.guard=none)(m:bU s o)(d:aO s x= .pd (.raw (.slice none 0 0)))(b:aO s y= .pd (.raw (.slice none 0 0)))(f:eu C.P t=some e)
  (next:R C (.ops all l::k) (s.put o.dst (.pd (.raw (.bool false))))):R C (.ops all (o::l)::k) s:=by
 refine R.uh j m qr (λa w E g=>?_) next
 have H:=aT g x;rw [d]at H;have h:=aT g y;rw [b]at h;have H:=aH.aC H;have h:=aH.aC h;refine⟨.bool false,?_,.raw _ rfl⟩;unfold execOp;simp [i,H,h,eqGuard,binOp,uY f]
def R.ZQ{y:Operand}(i:o.op= .binOp .eql t x y q)(j:o.guard=none)(m:bU s o)(d:aO s x= .pd (.raw (.slice none 0 0)))(b:aO s y= .pd (.raw (.slice none 0 0)))(f:eu C.P t=some e)
  (next:R C (.ops all l::k) (s.put o.dst (.pd (.raw (.bool true))))):R C (.ops all (o::l)::k) s:=by
 refine R.uh j m qr (λa w E g=>?_) next
 have H:=aT g x;rw [d]at H;have h:=aT g y;rw [b]at h;have H:=aH.aC H;have h:=aH.aC h;refine⟨.bool true,?_,.raw _ rfl⟩;unfold execOp;simp [i,H,h,eqGuard,binOp,uY f]
def R.Ef{y:Operand}{k1 k2:IntKind}{d n by':Nat}{z:Value}(id:Nat)(hid:C.fP id=none)(Q:o.op= .makeSlice t x y)(T:o.guard=none)(U:o.dst=some d)(hn:d<s.n)(N:aO s x= .pd (.raw (.int k1 n)))(M:aO s y= .pd (.raw (.int k2 n)))
  (O:eu C.P t=some e)(hi:(C.P.info? e).map (λi=>(i.zero,i.size,i.bytes))=some (some z,1,by'))(L:z.cells= #[z])(D:z.oneCell'=true)(J:by'*n<=281474976710656)(u:n<=maxLen)
  (next:R C (.ops all l::k) ((s.newRow id ⟨e,1,av n (.raw z)⟩).set d (.own id))):R C (.ops all (o::l)::k) s:=by
 intro a w E g;refine wpList_plain T λK X=>?_;have A:=aT g x;rw [N]at A;have v:=aT g y;rw [M]at v;have A:=aH.aC A;have v:=aH.aC v;have m:=run_make_row' (P:=C.P) t e z by' (iJ O) hi L k1 k2 n J (by simpa [maxLen]using u) w;unfold Oper.wp execOp;simp only [Q,A,v,Sem.run_bind,m,Result.andThen_ok,Sem.run_pure,Oper.upon_value];simp only [U];have H:(madeCells #[z] n).size=n:=size_madeCells _ _;have r:∀j,j<n->(madeCells #[z] n).getD j undef=z:=λj G=>by simp [madeCells,bc,G,Nat.mod_one]
 have Z:=g.row (i:=id) (r':=⟨e,1,av n (.raw z)⟩) (w':=w.alloc (.cells (madeCells #[z] n) e)) (some (w.heap.size,n)) (Keeps.of_below g.gw (bF w _) (λ_ _ h=>h)) (g.kept.trans (.of_below (bF w _))) qr (λp hp=>j6)
  (λb J _=>heap_alloc_old w _ J) (.inr ⟨w.heap.size,n,_,rfl,⟨.inl g.kept.size,λn hn=>w7,heap_alloc_new w _⟩,by simp [H],qr,u,λk f=>by
   simp only [fh]at f;simp [ag,f,PD.width],λk j f G=>by
   simp only [fh]at f;have:j=0:=uu G;subst this;have e1:(av n (PD.raw z)).getD k (.ak [])= .raw z:=by simp [ag,f]
   simp only [e1,cQ,Nat.add_zero,r k f];exact .raw _ D⟩) (λb c h=>vl)
 exact X _ _ (next _ _ _ (Z.put hn (λr' q=>.inr ⟨w.heap.size,n,qr,by
  rw [St.iY,af rfl]at q;cases q;simp⟩) qr))
def R.toStr{src dst:TypeId}{i:Nat}{r:Row}{bs:List UInt8}(U:o.op= .convert src dst x)(hg:o.guard=none)(hd:bU s o)(O:aO s x= .own i)(J:s.row i=some r)(H:r.sz=1)(u:r.ds=bs.map λc=>.raw (.int .u8 (c.toNat:Int)))
  (T:eu C.P src=some e)(he:Ew C.P e=some .u8)(Q:Eu C.P dst=true)(q:bs≠[])
  (next:R C (.ops all l::k) (s.put o.dst (.pd (.raw (.string ⟨bs.toArray⟩))))):R C (.ops all (o::l)::k) s:=by
 refine R.uh hg hd qr (λa w E g=>?_) next
 have M:=aT g x;rw [O]at M;refine⟨.string ⟨bs.toArray⟩,?_,.raw _ rfl⟩;rcases g.rows i r J with⟨_,z⟩|⟨b,D,A,p,m,t,Z,X,hw,f⟩
 ·rw [u]at z;simp at z;exact(q z).elim
 ·rcases M r J with⟨v,_⟩|⟨b',N,v,h3⟩
  ·rw [v]at p;cases p
  ·rw [v]at p;cases p
   have n:r.ds.length=bs.length:=by rw [u];simp
   have h:=run_convert_bytes_back (P:=C.P) w src dst e ⟨b,0,none⟩ D bs (iJ T) (EF he) (xC Q) (λj hj=>by
    have L:=f j 0 qk qk;have h5:(r.ds.getD j (.ak [])).cell 0= .raw (.int .u8 (bs[j].toNat:Int)):=by rw [u];simp [ag,hj,PD.cell]
    rw [h5,H,cQ,Nat.add_zero]at L;have K:=(aH.aC (G:=E.G) (w:=w) L);have d:j<A.size:=by rw [t,H];omega
    rw [addr_add,cx];simp only [World.cell?,m.2.2];simp only [bc,d,dc,je]at K;simp [d,K])
   rw [<-n]at h;unfold execOp;simp [U,h3,h]
end
end Go.au
