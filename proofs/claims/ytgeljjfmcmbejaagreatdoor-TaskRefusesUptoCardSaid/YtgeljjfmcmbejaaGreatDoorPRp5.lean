/- A part of the proof. -/
import Derived.Test.YtgeljjfmcmbejaaGreatDoorPHy6
set_option linter.all false
set_option linter.deprecated false
open Go.Instr renaming build→mw,makeInterface→pC
open Go.Proofs.Tryz renaming prog→aa
open List renaming foldl_cons→j1,length_take_le→r9,length→aR,length_cons→an,length_nil→a9,find?_append→mK,find?_cons→mU,find?_eq_none→r4,getElem?_set→mL,zip_cons_cons→eO,zip_nil_left→eZ,contains_nil→dx,range→aw,filter_nil→i7,replicate→av
open Nat renaming strongRecOn→eS,pow_succ→pv,reduceAdd→ck
open Option renaming map→bB,none_or→eI
set_option maxRecDepth 100000
set_option maxHeartbeats 4000000
namespace Go.Proofs
open Go.Shelf
def zN{P:Program}{f:FuncId}{B:Func}(h:((P.funcs[f]?).map λx=>{B with name:=x.name})=P.funcs[f]?)(H:(P.funcs[f]?).map (λx=>x.name== "runtime.NumGoroutine")=some false):Bears P f B:=by
 cases a:P.funcs[f]? with
 |none=>rw [a]at H;cases H
 |some x=>
  rw [a]at h H;exact⟨x.name,gm H,by rw [a,<-h];rfl⟩
def Tryz.sortC0_ren:Go.Shelf.Ren:=⟨λ|6=>101|15=>129|14=>150|28=>222|29=>223|20=>234|21=>240|22=>241|23=>242|24=>243|25=>244|26=>245|27=>246|46=>325|47=>316|48=>317|49=>326|50=>327|57=>360|n=>n,λ|22=>37|24=>35|25=>187|3=>3|39=>238|0=>0|53=>301|55=>129|4=>4|46=>294|45=>293|50=>46|5=>5|9=>9|66=>374|70=>378|76=>409|77=>410|n=>n,λ|n=>n⟩
def Tryz.sortC0:Go.Proofs.SlLaysF0.n6 aa Tryz.sortC0_ren:=by constructor<;>first|kernel_rfl|(intro;kernel_rfl)|exact zN qq qq|(constructor<;>first|kernel_rfl|(intro;kernel_rfl)|exact zN qq qq)
def Tryz.sortC_ren:Go.Shelf.Ren:=⟨λ|6=>101|15=>129|14=>150|28=>222|29=>223|20=>234|21=>240|22=>241|23=>242|24=>243|25=>244|26=>245|27=>246|46=>325|47=>316|48=>317|49=>326|50=>327|57=>360|n=>n,λ|22=>37|24=>35|25=>187|3=>3|39=>238|0=>0|53=>301|55=>129|4=>4|46=>294|45=>293|50=>46|5=>5|9=>9|66=>374|70=>378|76=>409|77=>410|n=>n,λ|n=>n⟩
def Tryz.sortC:Go.Proofs.SlLaysF.n6 aa Tryz.sortC_ren:=by constructor<;>first|kernel_rfl|(intro;kernel_rfl)|exact zN qq qq|(constructor<;>first|kernel_rfl|(intro;kernel_rfl)|exact zN qq qq)
end Go.Proofs
namespace Go.au
open Go.Sort Go.Shelf Go.Lib Go.Proofs
variable {T:Type}{cur:Array Value}{e:TypeId}
section
variable {C:Cx}{s:St}{a:Act}{w w':World}{E:Env}{P:Program}{k:List KI}{all:Array Oper}{l:List Oper}{o:Oper}
def Qv[Inhabited T](enc:T->Value){b:Nat}{fr:Nat×Nat}(H:w.heap[b]? =some (.cells cur e fr))(F:Array T):putRow enc w b 0 F=w.setRow b (putCells enc 0 F cur):=by
 unfold putRow mapBlock World.setRow
 congr 1
 apply ir;intro i;simp only [fg]
 split
 ·rename_i h;subst h;simp [H,onCells]
 ·rfl
def Tq[Inhabited T](enc:T->Value){F:Array T}(h:F.size<=cur.size)(t:Nat)(H:t<F.size):(putCells enc 0 F cur).getD t undef=enc F[t]!:=by
 have:t<cur.size:=qk;simp [putCells,Array.getD,this,H]
structure qI(w:World)(G:Pub){T:Type}(enc:T->PD)(l:List T) where
 x:T
 v:Value
 mem:x∈l
 one:v.oneCell'=true
 rd:aH w G v (enc x)
 rc:Rd w G v ((enc x).cell 0)
def Lw{ρ:Ren}(L0:SlLaysF0.n6 C.P ρ)(L:SlLaysF.n6 C.P ρ)(enc:T->PD)(c:T->T->Int)(lt:List T)(hO:SWO (ltOf c))(hw:∀x,(enc x).width=1)(ht:∀w G v x,Rd w G v ((enc x).cell 0)->aH w G v (enc x))
  (g:aB C s a w E){i:Nat}(hr:s.row i=some ⟨e,1,lt.map enc⟩){u v:Value}(hu:Rel C.P w E s.row u (.own i))(hv:TW C.P w E.G v (λes r=>∃x∈lt,∃y∈lt,es=[enc x,enc y]/\r= .raw (.int .i64 (c x y))))(hl:lt.length<4611686018427387904):
  Calls C.P (ρ.f 6) #[u,v] w λen w'=>en= .returned (.tuple #[])/\∃(l':List T) (E':Env),l'.Perm lt/\l'.Pairwise (λx y=>¬c y x<0)/\aB C (s.setRow i ⟨e,1,l'.map enc⟩) a w' E':=by
 obtain⟨f,caps,rfl,hent,X⟩:=hv
 have same:lt=[]->aB C (s.setRow i ⟨e,1,([]:List T).map enc⟩) a w E:=by
  rintro rfl;refine g.weak ⟨rfl,λ_=>.same _,λt cs h=>⟨cs,h,rfl,λ_ _=>.same _⟩,λj r h=>?_,λ_ _ h=>h,λ_=>.same _⟩;simp only [St.row,St.setRow,jR]at h
  split at h
  ·rename_i he;subst he;cases h;exact hr
  ·exact h
 rcases hu _ hr with⟨Z,rfl⟩|⟨b,cap,Z,rfl⟩
 ·have H:lt=[]:=by have:=g.nX i _ hr Z;simpa using this
  refine(AnyF.slices_SortFunc_none L0 none 0 _ w).mono ?_;rintro e' w' ⟨rfl,rfl⟩;exact⟨rfl,[],E,by rw [H],.nil,same H⟩
 ·by_cases H:lt=[]
  ·have hz:(lt.map enc).length=0:=by simp [H]
   simp only [hz];refine(AnyF.slices_SortFunc_none L0 _ cap _ w).mono ?_;rintro e' w' ⟨rfl,rfl⟩;exact⟨rfl,[],E,by rw [H],.nil,same H⟩
  ·rcases g.rows i _ hr with⟨h1,_⟩|⟨b',cap',J,h1,m,hsz,hle,hmax,Zp,hrd⟩
   ·rw [h1]at Z;cases Z
   rw [h1]at Z;cases Z;simp only [al,cQ]at hle Zp hrd hsz;have hpos:0<lt.length:=mT.2 H;have henc:∀j (h:j<lt.length),(lt.map enc).getD j (.ak [])=enc lt[j]:=λj h=>by simp [h]
   have P6:∀k (l:k<lt.length),Rd w E.G (J.getD k undef) ((enc lt[k]).cell 0):=λk l=>by have:=hrd k 0 l qr;rw [henc k l]at this;simpa using this
   let mk:(j:Nat)->j<lt.length->qI w E.G enc lt:=λj K=>
    {x:=lt[j],v:=J.getD j undef,mem:=am K,one:=(P6 j K).oneCell,rd:=ht _ _ _ _ (P6 j K),rc:=P6 j K}
   letI:Inhabited (qI w E.G enc lt):=⟨mk 0 hpos⟩
   let d:Array (qI w E.G enc lt):=Array.ofFn λj:Fin lt.length=>mk j.1 j.2
   have o:d.size=lt.length:=by simp [d]
   have hdi:∀j (h:j<lt.length),d[j]! =mk j h:=λj h=>by
    rw [cp d j (by rw [o];exact h)];simp [d]
   have h1c:OneCell (λx:qI w E.G enc lt=>x.v):=λx=>x.one
   have hH:Holds (λx:qI w E.G enc lt=>x.v) w b 0 d:=by
    intro t hT;rw [o]at hT;refine⟨?_,Dp m _⟩;rw [cx,H9 m t qk,hdi t hT]
   have A:∀M O (dk:Array (qI w E.G enc lt)),sortWorld (λx:qI w E.G enc lt=>x.v) w b 0 M dk O=Sort.grow ((w.setRow b (putCells (λx:qI w E.G enc lt=>x.v) 0 dk J)).drewN M) O:=by
    intro M O dk;unfold sortWorld;rw [putRow_ahead,Qv _ m.2.2];rfl
   have U:∀M O F,Keeps w E.G (Sort.grow ((w.setRow b F).drewN M) O) E.G:=by
    intro M O F;refine(kD (w:=w) F m.2.1).trans ?_;exact Keeps.of_below (n:=(w.setRow b F).heap.size) (λb' o' h=>by simpa [World.setRow]using g.gw b' o' h) ((⟨⟨rfl,rfl,rfl,a3 _,λ_ _=>rfl⟩,lA _ _⟩:Below (w.setRow b F).heap.size (w.setRow b F) ((w.setRow b F).drewN M)).trans (below_grow ((w.setRow b F).drewN M) O)) (λ_ _ h=>h)
   have hcmp:CmpLays1 C.P f caps (λx:qI w E.G enc lt=>x.v) (λx y=>c x.x y.x) b 0 d.size w:=by
    intro M O dk _ x y;rw [A];have l:=U M O (putCells (λx:qI w E.G enc lt=>x.v) 0 dk J)
    have hg:Good (Sort.grow ((w.setRow b (putCells (λx:qI w E.G enc lt=>x.v) 0 dk J)).drewN M) O) E.G:=⟨λb' o' h=>by
     have:=g.gw b' o' h;simp [Sort.grow,World.drewN,World.setRow];omega,g.tab.keep l⟩
    refine(X _ E.G l hg [enc x.x,enc y.x] _ #[x.v,y.v] ⟨x.x,x.mem,y.x,y.mem,rfl,rfl⟩ rfl (λj K=>?_)).mono ?_
    ·match j,K with
     |0,_=>exact x.rd.keep l
     |1,_=>exact y.rd.keep l
    ·rintro e' w' ⟨v,rfl,hv,hbel⟩
     have:v= .int .i64 (c x.x y.x):=aH.aC hv;subst this;exact⟨rfl,hbel.Yq⟩
   have hO':SWO (ltOf λx y:qI w E.G enc lt=>c x.x y.x):=⟨λx=>hO.irrefl x.x,λx y z=>hO.trans x.x y.x z.x,λx y z=>hO.ntrans x.x y.x z.x⟩;have hlen:(lt.map enc).length=d.size:=by rw [o];simp
   simp only [hlen];refine(Any.slices_SortFunc L (λx:qI w E.G enc lt=>x.v) h1c (λx y=>c x.x y.x) hO' f caps b 0 cap d w hent hcmp hH m.lt (by rw [o];exact hl)).mono ?_;rintro e' w' ⟨rfl,D,q,O,⟨Q,_,hp2⟩,hs',rfl⟩;rw [A];have P7:D.size=lt.length:=by rw [Q,o]
   have P:D.toList.Perm d.toList:=by
    have e1:D.extract 0 d.size=D:=by rw [<-Q];simp
    have e2:d.extract 0 d.size=d:=qr;rw [e1,e2]at hp2;exact hp2
   have hdl:d.toList.map (·.x)=lt:=by
    apply cJ
    ·simp [o]
    ·intro j h1 h2
     have K:j<d.size:=uu h1;have h3:=hdi j (by rw [<-o];exact K);rw [cp d j K]at h3;simp only [ei,Array.getElem_toList,h3,mk]
   refine⟨rfl,D.toList.map (·.x),E,(P.map _).trans (by rw [hdl]),?_,?_⟩
   ·rw [cB]
    intro p q hp hq hpq;have hp':p<D.size:=uu hp;have N:q<D.size:=uu hq;have:=hs' p q (db _) hpq (by rw [Q]at N;exact N);rw [cp D p hp',cp D q N]at this;simpa [ltOf]using this
   ·refine aB.grown (aB.drewN (g.He hr h1 ((D.toList.map (·.x)).map enc) (putCells (λx:qI w E.G enc lt=>x.v) 0 D J) (by simp [P7]) (by simp [putCells,hsz]) (λk l=>?_) (λk j l K=>?_)) q) O
    ·simp only [al,Array.length_toList]at l
     simp only [cr,ag,cU];simp [l,hw]
    ·have K:j<1:=K
     obtain rfl:j=0:=qk;simp only [al,Array.length_toList]at l;simp only [cQ,Nat.add_zero];rw [Tq _ qk _ l];have:=(D[k]).rc;have e3:((D.toList.map (·.x)).map enc).getD k (.ak [])=enc (D[k]).x:=by simp [l]
     rw [e3,cp D k l];exact this
def R.Vn{ρ:Ren}(L0:SlLaysF0.n6 C.P ρ)(L:SlLaysF.n6 C.P ρ){f:FuncId}{x y:Operand}{j:Array TypeId}(enc:T->PD)(c:T->T->Int)(lt:List T){i:Nat}(O:ρ.f 6=f)(Q:aF C.P f)(J:o.op= .call ⟨.value (.func f),#[x,y],j⟩)(N:o.guard=none)(U:dN s o)(p:aO s x= .own i)(A:s.row i=some ⟨e,1,lt.map enc⟩)
  (q:∀x,(enc x).width=1)(u:∀w G v x,Rd w G v ((enc x).cell 0)->aH w G v (enc x))(Z:SWO (ltOf c))(M:lt.length<4611686018427387904)
  (X:Cmp C.P (λes r=>∃x∈lt,∃y∈lt,es=[enc x,enc y]/\r= .raw (.int .i64 (c x y))) (aO s y))
  (next:∀b:List T,b.Perm lt->b.Pairwise (λx y=>¬c y x<0)->R C (.ops all l::k) ((s.setRow i ⟨e,1,b.map enc⟩).put o.dst .dead)):R C (.ops all (o::l)::k) s:=by
 intro a w E g;refine wpList_plain N λK hK=>?_;have n:=fJ (P:=C.P) (w:=w) Q a.eval o (.func f) #[x,y] j #[] J #[] rfl;unfold Oper.wp;rw [n,Oper.upon_enter];have m:=aT g x;rw [p]at m;have h2:=X.ok g (aT g y);have H:=Lw L0 L enc c lt Z q u g A m h2 M;rw [O]at H;have e1:(#[]++(#[x,y]:Array Operand).map a.eval++ #[]:Array Value)= #[a.eval x,a.eval y]:=qr;rw [e1];refine H.mono ?_;rintro en w' ⟨rfl,b,E',D,z,g'⟩;have d:bU (s.setRow i ⟨e,1,b.map enc⟩) o:=λt h=>ah U t h;exact hK _ _ (next b D z _ _ _ (g'.eY d (v:=.dead) trivial qr))
end
end Go.au
namespace Go.Proofs.Z
open Go.au
variable {D l:LL}
def R0:aF aa 101:=λ_ _=>qq
section
variable {p:List Int->Prop}(h0:p [])
include h0
theorem Wj(h:∀x∈D,p x)(i:Nat):p (D.getD i []):=by
 rw [ag]
 cases H:D[i]? with
 |none=>exact h0
 |some y=>exact h y (mS H)
theorem swp_all(h:∀x∈D,p x)(i j:Nat):∀x∈swp i j D,p x:=by
 intro x H;rcases k4 H with H|rfl
 ·rcases k4 H with H|rfl
  ·exact h x H
  ·exact Wj h0 h j
 ·exact Wj h0 h i
theorem ML(n a b:Nat)(h:∀x∈D,p x):∀x∈wS n a b D,p x:=by
 induction n generalizing a b D with
 |zero=>exact h
 |succ n i=>rw [wS];exact i _ _ (swp_all h0 h _ _)
theorem Pw(m i j:Nat)(h:∀x∈D,p x):∀x∈Em m i j D,p x:=by
 induction H:i+j using eS generalizing i j D with
 |_ n a=>
  rw [Em]
  split
  ·exact ML h0 _ _ _ h
  ·split
   ·exact h
   ·split
    ·exact a (i-j+j) qk _ _ (ML h0 _ _ _ h) rfl
    ·exact a (i+(j-i)) qk _ _ (ML h0 _ _ _ h) rfl
theorem DD(a j:Nat)(h:∀x∈D,p x):∀x∈sO a j D,p x:=by
 induction j generalizing D with
 |zero=>exact h
 |succ j i=>
  rw [sO]
  split
  ·exact i (swp_all h0 h _ _)
  ·exact h
theorem OA(a n i:Nat)(h:∀x∈D,p x):∀x∈nD a n i D,p x:=by
 induction n generalizing i D with
 |zero=>exact h
 |succ n b=>rw [nD];exact b _ (DD h0 _ _ h)
theorem P0(n k:Nat)(h:∀x∈D,p x):∀x∈Gt n k D,p x:=by
 induction n generalizing k D with
 |zero=>exact h
 |succ n i=>rw [Gt];exact i _ (swp_all h0 h _ _)
theorem P1(n k:Nat)(h:∀x∈D,p x):∀x∈Gu n k D,p x:=by
 induction n generalizing k D with
 |zero=>exact h
 |succ n i=>rw [Gu];exact i _ (swp_all h0 h _ _)
theorem Lx(m s e:Nat)(h:∀x∈D,p x):∀x∈x9 m s e D,p x:=by
 unfold x9;split
 ·exact Pw h0 _ _ _ h
 ·exact h
theorem Wn(f a m b:Nat)(h:∀x∈D,p x):∀x∈qA f a m b D,p x:=by
 induction f generalizing a m b D with
 |zero=>exact h
 |succ f i=>
  rw [qA]
  split
  ·exact P0 h0 _ _ h
  ·split
   ·exact P1 h0 _ _ h
   ·have H:=Lx h0 m (Oz a m b D) ((a+b)/2+m-Oz a m b D) h
    simp only
    split<;>split<;>first|exact i _ _ _ (i _ _ _ H)|exact i _ _ _ H|exact H
theorem P2(n a b:Nat)(h:∀x∈D,p x):∀x∈st1 n a b D,p x:=by
 induction H:n+1-b using eS generalizing a b D with
 |_ k i=>
  rw [st1]
  split
  ·exact i (n+1-(b+20)) qk _ _ (OA h0 _ _ _ h) rfl
  ·exact OA h0 _ _ _ h
theorem P3(n z a b:Nat)(h:∀x∈D,p x):∀x∈st2 n z a b D,p x:=by
 induction H:n+1-b using eS generalizing a b D with
 |_ k i=>
  rw [st2]
  split
  ·exact i (n+1-(b+2*z)) qk _ _ (Wn h0 _ _ _ _ h) rfl
  ·split
   ·exact Wn h0 _ _ _ _ h
   ·exact h
theorem Nn(n z:Nat)(h:∀x∈D,p x):∀x∈xw n z D,p x:=by
 induction H:n-z using eS generalizing z D with
 |_ k i=>
  rw [xw]
  split
  ·exact i (n-2*z) qk _ (P3 h0 _ _ _ _ h) rfl
  ·exact h
theorem Ly(h:∀x∈D,p x):∀x∈Bl D,p x:=Nn h0 _ _ (P2 h0 _ _ _ h)
end
def J4(x:List Int):LL->LL
 | []=>[x]
 |y::l=>if 0<cmpL x y then y::J4 x l else x::y::l
def IE(l:LL):LL:=l.foldr J4 []
def FT(x:List Int):∀l,(J4 x l).Perm (x::l)
 | []=>.refl _
 |y::l=>by
  rw [J4]
  split
  ·exact((FT x l).cons y).trans (.swap ..)
  ·exact .refl _
def KT:∀l:LL,(IE l).Perm l
 | []=>.refl _
 |x::l=>(FT x (IE l)).trans ((KT l).cons x)
abbrev IG(x y:List Int):Prop:=¬cmpL y x<0
def Cr{x y z:List Int}(b:IG x y)(a:IG y z):IG x z:=by
 intro h
 have H:cmpL x y<0\/x=y:=by
  rcases Int.lt_trichotomy (cmpL x y) 0 with h|h|h
  ·exact .inl h
  ·exact .inr ((gK.eq _ _).1 h)
  ·exact absurd ((gK.flip y x).2 h) b
 rcases H with H|rfl
 ·exact a (gK.trans _ _ _ h H)
 ·exact a h
def II{x:List Int}:∀{l:LL},l.Pairwise IG->(J4 x l).Pairwise IG
 | [],_=>List.pairwise_singleton ..
 |y::l,h=>by
  rw [J4];obtain⟨d,f⟩:=ej.1 h
  split
  ·rename_i a
   refine ej.2 ⟨λz H=>?_,II f⟩;rcases b8.1 ((FT x l).mem_iff.1 H)with rfl|H
   ·intro b;omega
   ·exact d z H
  ·rename_i a
   have e:IG x y:=λb=>a ((gK.flip _ _).1 b);refine ej.2 ⟨λz H=>?_,h⟩;rcases b8.1 H with rfl|H
   ·exact e
   ·exact Cr e (d z H)
def GL:∀l:LL,(IE l).Pairwise IG
 | []=>.nil
 |x::l=>II (GL l)
def Tt{m:LL}(p:m.Perm l)(H:m.Pairwise IG):m=IE l:=
 List.Perm.eq_of_pairwise (λa b _ _ e d=>by
  rcases Int.lt_trichotomy (cmpL a b) 0 with h|h|h
  ·exact absurd h d
  ·exact(gK.eq _ _).1 h
  ·exact absurd ((gK.flip _ _).2 h) e) H (GL l) (p.trans (KT l).symm)
def L1(l:LL):LL:=(l.filter λe=>decide (e≠[])).map mD
def FU(p:LL×List ByteArray)(e:List Int):LL×List ByteArray:=
 if uj e p.1 p.2=true then p else(p.1++[e],if tq p.2 (jU e)=true then p.2 else p.2++[jU e])
def sS(D:LL):LL×List ByteArray:=D.foldl FU ([],[])
def minL(l:LL):LL:=IE (sS (Bl (L1 l))).1
def Cs{k:Nat}(h:k<D.length):sS (D.take (k+1))=FU (sS (D.take k)) D[k]:=by
 unfold sS;rw [bh h,k7];rfl
def Rz(D:LL):(sS D).1.length<=D.length:=by
 have:∀(l:LL) (p:LL×List ByteArray),(l.foldl FU p).1.length<=p.1.length+l.length:=by
  intro l
  induction l with
  |nil=>intro p;simp
  |cons e l i=>
   intro p;rw [j1];refine bz (i _) ?_;rw [FU];split<;>simp<;>omega
 simpa [sS]using this D ([],[])
def XC(D:LL):(sS D).2.Nodup:=by
 have:∀(l:LL) (p:LL×List ByteArray),p.2.Nodup->(l.foldl FU p).2.Nodup:=by
  intro l
  induction l with
  |nil=>intro p h;exact h
  |cons e l i=>
   intro p h;rw [j1];refine i _ ?_;rw [FU]
   split
   ·exact h
   ·simp only
    split
    ·exact h
    ·rename_i d
     refine dq.2 ⟨h,qr,λa f b H=>?_⟩;rintro rfl;rw [bp]at H;subst H;exact d (Bg.2 f)
 exact this D ([],[]) .nil
def No{k:Nat}(H:k<l.length):L1 (l.take (k+1))=if l[k]=[]then L1 (l.take k)else L1 (l.take k)++[mD l[k]]:=by
 unfold L1;rw [bh H,eV,bl]
 by_cases h:l[k]=[]
 ·rw [af h];simp [h]
 ·rw [ae h];simp [h]
def sP(l:LL):(L1 l).length<=l.length:=by unfold L1;rw [al];exact gC ..
def Sw{p:List Int->Prop}(h:∀x∈l,p (mD x)):∀x∈L1 l,p x:=by
 intro x a;obtain⟨y,H,rfl⟩:=aq.1 a;exact h y (cG.1 H).1
structure OB(e:List Int):Prop where
 s:e.Pairwise (· < ·)
 l:e.length<=1000000
 b:∀x∈e,-9223372036854775808<=x/\x<=9223372036854775807
def OB.nil:OB []:=⟨.nil,qr,λx h=>xa⟩
def Wp(l:LL)(hl:l.length<=1000000)(U:∀e∈l,e.length<1000000/\∀x∈e,-9223372036854775808<=x/\x<=9223372036854775807):bg aa 48 [.pd (lls l)] [lls (minL l)]:=by
 have hG:∀e∈l,OB (mD e):=λe he=>⟨qm e,by have:=xR e;have:=(U e he).1;omega,λx hx=>(U e he).2 x ((LM x e).1 hx)⟩;refine bg.mk Tryz.func48 λw G=>?_;refine ac ?_;refine R.mV 3 1003 35 1 qn rfl rfl ?_;refine ac ?_;refine R.fU (λ(k:Nat) s=>St.lp [2,10,11] [(12,.pd (I k)),(3,.own 1003)] [] [] [] [(1003,dK (L1 (l.take k)))] s) (λ(k:Nat)=>k<=l.length) (λ(k:Nat)=>l.length-k) (0) qk ?_;intro k hk;refine ac ?_;refine⟨λh=>?_,λh=>?_⟩
 ·have t:k<l.length:=uu h
  obtain⟨hbl,q⟩:=U l[k] (am t);have n:=bz (sP (l.take k)) (r9 ..);have hsn:=No t;generalize L1 (l.take k)=X at hsn n⊢;refine qe t ?_;refine⟨λh=>?_,λh=>?_⟩
  ·have d:l[k]≠[]:=by
    intro e;rw [e]at h;simp at h
   rw [ae d]at hsn;refine ac ?_;refine R.kW (Pu l[k] qk) rfl rfl zd ?_;refine ac ?_;refine R.append (r:=dK X) (es:=[ints (mD l[k])]) rfl rfl (ah qn) rfl rfl rfl rfl LP rfl U0 qr (congrArg (bB aR) U2) rfl (λi hi=>vi) (by show _*iQ aa 35<=_;rw [U1];simp only [al,an,a9];omega) kj ?_;apply ev8;simp only [go_sem,wrapN (k:=k) qk];refine R.fE (k+1) qk (l:=by(simp only [go_sem,hsn,dK,bl,ap,ax]);all_goals(and_intros<;>first|rfl))
  ·have d:l[k]=[]:=by
    cases hc:l[k]with
    |nil=>rfl
    |cons a b=>rw [hc]at h;simp at h
   rw [af d]at hsn;apply ev8;simp only [go_sem,wrapN (k:=k) qk];refine R.fE (k+1) qk (l:=xj)
 have N:¬k<l.length:=uu h;rw [bi qk];clear h N hk;have hL:=sP l;have hA:∀x∈Bl (L1 l),OB x:=Ly OB.nil (Sw hG);have hS:=MK (L1 l);show R _ _ _;unfold minL;generalize L1 l=X at hL hA hS⊢;refine ac ?_;refine R.cX [] [(1003,dK X)] [] [1003] rfl rfl rfl (λvb hvb=>Tn 1003 X qk) rfl zr Me ?_;rintro jv-dn P ys u rows ⟨rfl,rfl,rfl,rfl⟩;refine⟨rfl,rfl,⟨⟨_,_,rfl,rfl,by simp [MK],rfl⟩,trivial⟩,?_⟩;generalize Bl X=D at hA hS⊢;refine ac ?_;refine R.makeMap rfl rfl rfl qn λm hm hm0=>?_;refine ac ?_;refine R.mV 7 1007 35 1 qn rfl rfl ?_;refine ac ?_;refine R.og (λ(k:Nat) s=>{St.lp [2,6,28,29] [(30,.pd (I k)),(7,.own 1007)] [] [] [1003] [(1007,dK (sS (D.take k)).1)] s with maps:=[(m,.map (zx (sS (D.take k)).2))]}) (λ(k:Nat)=>k<=D.length) (λ(k:Nat)=>D.length-k) (0) qk (by(simp only [go_sem]);all_goals(and_intros<;>first|rfl|simp)) ?_;intro k hk;refine ac ?_;refine⟨λh=>?_,λh=>?_⟩
 ·have t:k<D.length:=uu h
  obtain⟨hs,C,q⟩:=hA D[k] (am t);have n:=bz (Rz (D.take k)) (r9 ..);have o:=XC (D.take k);have hsn:=Cs t;generalize sS (D.take k)=p at hsn n o⊢;obtain⟨K,M⟩:=p;simp only at n o⊢;refine qe t ?_;refine R.Vc (b:=true) rfl ((HV D[k] K M m hs C q qk o).toX (rs:=[B (uj D[k] K M)]) λvb P xs u rows h=>⟨h.1,h.2.1⟩) rfl rfl (zc (.cons (.own 1007 (dK K) rfl) zd)) (λ_=>rfl) qn (λa w E g=>aB.Pd g q9) ?_;have H:FU (K,M) D[k]=if uj D[k] K M=true then(K,M)else(K++[D[k]],if tq M (jU D[k])=true then M else M++[jU D[k]]):=rfl
  generalize hab:uj D[k] K M=ab at H
  cases ab
  ·rw [ae qu]at H
   refine ac ?_;refine ac ?_;refine R.kW (Ou D[k] C q) rfl rfl zd ?_;refine ac ?_
   cases T:tq M (jU D[k])
   ·have Z:sS (D.take (k+1))=(K++[D[k]],M++[jU D[k]]):=by rw [hsn,H,T];rfl
    clear hsn H;have L:jU D[k]∉M:=λh=>by rw [Bg.2 h]at T;cases T
    refine R.jA (m:=zx M) (.inl rfl) rfl (ah qn) rfl q9 rfl rfl TR rfl (λp J=>?_) (.inl hm) ?_
    ·obtain⟨z,hz,rfl⟩:=aq.1 J
     exact⟨rfl,λe=>L (by simp only at e;cases e;exact hz)⟩
    apply ev8;simp only [go_sem,fK];refine R.append (r:=dK K) (es:=[ints D[k]]) rfl rfl (ah qn) rfl rfl rfl rfl LP rfl U0 qr (congrArg (bB aR) U2) rfl (λi hi=>vi) (by show _*iQ aa 35<=_;rw [U1];simp only [al,an,a9];omega) kj ?_;apply ev8;simp only [go_sem,wrapN (k:=k) qk];refine R.fE (k+1) qk (l:=by(simp only [go_sem,Z,dK,zx,bl,ap,ax]);all_goals(and_intros<;>first|rfl))
   ·have Z:sS (D.take (k+1))=(K++[D[k]],M):=by rw [hsn,H,T];rfl
    clear hsn H;obtain⟨i,hi,A⟩:=bN (Bg.1 T)
    have f:(zx M).set i (.string (jU D[k]),.raw (.bool true))=zx M:=by
     apply cJ
     ·simp
     ·intro j h1 h2
      simp only [nm]
      split
      ·rename_i e;subst e;simp [A]
      ·rfl
    refine R.UH (i:=i) (m:=zx M) (.inl rfl) rfl (ah qn) rfl q9 rfl rfl TR rfl (λp J=>by obtain⟨z,hz,rfl⟩:=aq.1 J;rfl) (.inl hm) (uu hi) (by simp [ag,hi,A]) ?_;rw [f];refine ac ?_;refine R.append (r:=dK K) (es:=[ints D[k]]) rfl rfl (ah qn) rfl rfl rfl rfl LP rfl U0 qr (congrArg (bB aR) U2) rfl (λi hi=>vi) (by show _*iQ aa 35<=_;rw [U1];simp only [al,an,a9];omega) kj ?_;apply ev8;simp only [go_sem,wrapN (k:=k) qk];refine R.fE (k+1) qk (l:=by(simp only [go_sem,Z,dK,zx,bl,ap,ax]);all_goals(and_intros<;>first|rfl))
  ·rw [af rfl]at H
   rw [H]at hsn;refine ac ?_;apply ev8;simp only [go_sem,wrapN (k:=k) qk];refine R.fE (k+1) qk (l:=xj)
 have N:¬k<D.length:=uu h;rw [bi qk];have O:=Rz D;generalize sS D=p at O⊢;obtain⟨K,M⟩:=p;simp only at O⊢;refine ac ?_;refine R.Vn Tryz.sortC0 Tryz.sortC ints cmpL K xp R0 rfl rfl qn rfl rfl (λ_=>rfl) (λw G v x h=>h) gK.swo qk (.func 102 C8 ?_) ?_
 ·rintro ds r ⟨x,hx,y,hy,rfl,rfl⟩
  exact Dl x y
 intro l' J Q;obtain rfl:=Tt J Q;refine ac ?_;refine R.dI 1007 rfl rfl ?_;simp only [go_sem];refine R.rW ?_;rfl
def DE:aF aa 357:=λ_ _=>qq
def DG:aF aa 308:=λ_ _=>qq
def DH:aF aa 309:=λ_ _=>qq
def DM:aF aa 307:=λ_ _=>qq
def Gk:aF aa 306:=λ_ _=>qq
def Co.cl2{P:Program}{var:Nat->Option (List SV)}{row:Nat->Option Row}{f t u:Nat}(d e:PD){F:List PD->PD->Prop}(b:var t=some (d.cells.map .pd))(a:var u=some (e.cells.map .pd))(g:aF P f)(h:∀es r,F es r->aG P f (es.map .pd++[.ref d 0,.ref e 0]) [r]):Co P var row (.clo f [t,u]) (.fn F) true:=
 have key:∀(d:PD) (j:Nat),j<d.width->Cv var row ((d.cells.map SV.pd).getD j .dead) (d.cell j):=λd j hj=>by
  have e:(d.cells.map SV.pd).getD j .dead= .pd (d.cell j):=by
   rw [<-PD.jy d j hj];have:j<d.cells.length:=ww;simp [this]
  rw [e];exact .pd _
 .clo f [t,u] [d,e] F (.clo f [t,u] [d,e] rfl (λi=>if i=0 then d.cells.map .pd else e.cells.map .pd) (λi H=>by
  match i,H with
  |0,_=>exact⟨b,by simp [PD.bD]⟩
  |1,_=>exact⟨a,by simp [PD.bD]⟩) (λi j H hj=>by
  match i,H with
  |0,_=>exact key d j hj
  |1,_=>exact key e j hj)) g h
structure Se where
 g:Gr
 ws:List W
 hold:Bool
 order:List Int
 inc:List (List Int)
 state:List Int
abbrev sV(s:Se)(st cl:PD):PD:=.ak [I s.g.n,ints s.g.cost,lls s.g.edges,ways s.ws,B s.hold,ints s.order,lls s.inc,ints s.state,st,cl]
def kR(s:Se)(x v:Int):Bool:=s.state.getD v.toNat 0==x
abbrev okV(s:Se)(l:List Int):Prop:=∀v∈l,0<=v/\v.toNat<s.state.length
variable (s:Se)(st cl:PD)
def Nt(x v:Int)(h:0<=v)(h1:v.toNat<s.state.length):aG aa 357 [.pd (I v),.ref (.ptr (sV s st cl)) 0,.ref (I x) 0] [B (!kR s x v)]:=by
 refine aG.mk Tryz.func357 λw G=>?_;have e:s.state[v.toNat]=s.state.getD v.toNat 0:=yp;refine ac ?_;refine R.dA 8 80 mixed qv ?_;simp only [go_sem,getD_map,h1,e];repeat refine⟨qk,?_⟩
 refine ac ?_;refine R.rC ?_;rfl
def Wq(l:List Int)(x:Int)(a:okV s l):aG aa 304 [.pd (.ptr (sV s st cl)),.pd (ints l),.pd (I x)] [B (l.all (kR s x))]:=by
 refine aG.mk Tryz.func304 λw G=>?_;refine ac ?_;have h:=dW l λv=>!kR s x v;refine R.kC (h) rfl rfl (zc (.cons (Co.cl2 (.ptr (sV s st cl)) (I x) rfl rfl DE (by rintro e r ⟨v,H,rfl,rfl⟩;have:=a v H;exact Nt s st cl x v this.1 this.2)) (.nil))) ?_;refine ac ?_;refine R.rC ?_;rw [show l.all (kR s x)=!l.any λv=>!kR s x v from List.all_eq_not_any_not ..];rfl
def t5(v:Int)(h:0<=v)(h1:v.toNat<s.state.length):aG aa 308 [.pd (I v),.ref (.ptr (sV s st cl)) 0] [B (kR s 2 v)]/\aG aa 309 [.pd (I v),.ref (.ptr (sV s st cl)) 0] [B (kR s 1 v)]:=by
 have e:s.state[v.toNat]=s.state.getD v.toNat 0:=yp;constructor
 ·refine aG.mk Tryz.func308 λw G=>?_
  refine z8 h1 e ?_;refine R.rC ?_;rfl
 ·refine aG.mk Tryz.func309 λw G=>?_
  refine z8 h1 e ?_;refine R.rC ?_;rfl
def OC(w:W):Bool:=!w.pos.any (kR s 2) && !w.neg.any (kR s 1)
def Lz(y:W)(p:okV s y.pos)(n:okV s y.neg):aG aa 307 [.pd (way y),.ref (.ptr (sV s st cl)) 0] [B (OC s y)]:=by
 refine aG.mk Tryz.func307 λw G=>?_;refine ac ?_;have H:=dW y.pos (kR s 2);refine R.kC (H) rfl rfl (zc (.cons (.QG 308 [.ptr (sV s st cl)] (decides I (kR s 2) y.pos) DG (by rintro e r ⟨v,h,rfl,rfl⟩;have:=p v h;exact(t5 s st cl v this.1 this.2).1)) (.nil))) ?_
 cases b:y.pos.any (kR s 2)
 ·apply aj;simp only [go_sem,↓reduceIte,cH]
  have a:=dW y.neg (kR s 1);refine R.kC (a) rfl rfl (zc (.cons (.QG 309 [.ptr (sV s st cl)] (decides I (kR s 1) y.neg) DH (by rintro e r ⟨v,h,rfl,rfl⟩;have:=n v h;exact(t5 s st cl v this.1 this.2).2)) (.nil))) ?_;refine ar ?_;refine R.rC ?_;unfold OC;rw [b];rfl
 ·apply aj;simp only [go_sem,↓reduceIte,bS]
  refine R.rC ?_;unfold OC;rw [b];rfl
def FV(w:W):Bool:=w.pos.all (kR s 1)&&w.neg.all (kR s 2)
def Nx(y:W)(H:okV s y.pos)(n:okV s y.neg):aG aa 306 [.pd (way y),.ref (.ptr (sV s st cl)) 0] [B (FV s y)]:=by
 refine aG.mk Tryz.func306 λw G=>?_;refine ac ?_;refine R.kC (Wq s st cl y.pos 1 H) rfl rfl zg ?_
 cases h:y.pos.all (kR s 1)
 ·refine ar ?_
  refine R.rC ?_;unfold FV;rw [h];rfl
 ·refine ar ?_
  refine R.kC (Wq s st cl y.neg 2 n) rfl rfl zg ?_;refine ar ?_;refine R.rC ?_;unfold FV;rw [h];rfl
abbrev stepD(k a i o:Int):PD:=.ak [I k,I a,I i,I o]
abbrev po(s:Se):Prop:=∀y∈s.ws,okV s y.pos/\okV s y.neg
def Uk:Bool:=s.hold && !s.ws.any (OC s)
def N0(v:Int)(b:po s):aG aa 197 [.pd (.ptr (sV s st cl)),.pd (I v)] [stepD 5 0 0 0,B (Uk s)]:=by
 unfold Uk;refine aG.mk Tryz.func197 λw G=>?_
 cases H:s.hold
 ·refine zw H ?_
  exact R.dS (vc:=_) rfl vp
 ·refine zw H ?_
  have h:=wK s.ws (OC s);refine R.kC (h) rfl rfl (zc (.cons (Co.oq (.ptr (sV s st cl)) rfl DM (by rintro e r ⟨y,a,rfl,rfl⟩;have:=b y a;exact Lz s st cl y this.1 this.2)) (.nil))) ?_;refine ar ?_;exact R.dS (vc:=_) rfl vp
def mi:Bool:=!s.hold&&decide (jC (FV s) s.ws>=0)
def Sx(v:Int)(b:po s):aG aa 196 [.pd (.ptr (sV s st cl)),.pd (I v)] [if s.hold then stepD 0 0 0 0 else stepD 4 (if 0>jC (FV s) s.ws then 0 else jC (FV s) s.ws) 0 0,B (mi s)]:=by
 unfold mi;refine aG.mk Tryz.func196 λw G=>?_
 cases H:s.hold
 ·refine zw H ?_
  have h:=zu s.ws (FV s);refine R.kC (h) rfl rfl (zc (.cons (Co.oq (.ptr (sV s st cl)) rfl Gk (by rintro e r ⟨y,a,rfl,rfl⟩;have:=b y a;exact Nx s st cl y this.1 this.2)) (.nil))) ?_;refine ar ?_;exact R.dS (vc:=_) rfl vp
 ·refine zw H ?_
  exact R.dS (vc:=_) rfl vp
def OD(v:Int):Option Int:=(s.inc.getD v.toNat []).find? λe=>(s.g.edges.getD e.toNat []).all (kR s 1)
def lQ(v:Int):Option Int:=if v<0\/¬s.state.getD v.toNat 0=1 then none else OD s v
abbrev okE(s:Se):Prop:=(∀e∈s.g.edges,okV s e)/\s.inc.length=s.state.length/\∀l∈s.inc,∀e∈l,0<=e/\e.toNat<s.g.edges.length
abbrev tn:Option Int->PD
 |some e=>stepD 2 e 0 0
 |none=>stepD 0 0 0 0
def G3(v:Int)(A:v<s.state.length)(z:okE s):aG aa 194 [.pd (.ptr (sV s st cl)),.pd (I v)] [tn (lQ s v),B (lQ s v).isSome]:=by
 obtain⟨g,x,f⟩:=z;refine aG.mk Tryz.func194 λw G=>?_
 by_cases a:v<0
 ·have d:decide (v<0)=true:=uu a
  rw [show lQ s v=none by rw [lQ,af (.inl a)]];refine zw d ?_;exact R.dS (vc:=_) rfl vp
 have d:decide (v<0)=false:=uu a;have h1:v.toNat<s.state.length:=qk;have h2:v.toNat<s.inc.length:=qk;have o:s.state[v.toNat]=s.state.getD v.toNat 0:=yp;have E:s.inc[v.toNat]=s.inc.getD v.toNat []:=j7
 by_cases C:s.state.getD v.toNat 0=1
 ·have D:(s.state.getD v.toNat 0 !=1)=false:=uu C
  have r:lQ s v=OD s v:=by rw [lQ,ae (by rintro(h|h);exact a h;exact h C)]
  have m:s.inc.getD v.toNat []∈s.inc:=by rw [<-E];exact am h2
  have j:=f _ m;rw [r,OD];generalize s.inc.getD v.toNat []=l at E j;clear r m;apply aj;simp only [go_sem,↓reduceIte,d,getD_map,h1,h2,o,E,D];repeat refine⟨qk,?_⟩
  refine R.bound 27 (sz:=1) (ds:=l.map I) rfl λhl2=>?_;have hl2:l.length<=9223372036854775807:=v4;refine R.fU (λ(k:Nat) s=>St.lp [0,4,27,28] [(29,.pd (I k))] [4] [] [] [] s) (λ(k:Nat)=>k<=l.length/\(l.take k).find? (λe=>(s.g.edges.getD e.toNat []).all (kR s 1))=none) (λ(k:Nat)=>l.length-k) (0) (⟨qk,rfl⟩) ?_;rintro k ⟨J,H⟩;refine ac ?_;refine⟨λh=>?_,λh=>?_⟩
  ·have t:k<l.length:=uu h
   obtain⟨Q,q⟩:=j l[k] (am t);have n:s.g.edges[l[k].toNat]=s.g.edges.getD l[k].toNat []:=by simp [q]
   have b:okV s (s.g.edges.getD l[k].toNat []):=by rw [<-n];exact g _ (am q)
   have p:l.find? (λe=>(s.g.edges.getD e.toNat []).all (kR s 1))=if(s.g.edges.getD l[k].toNat []).all (kR s 1)=true then some l[k]else(l.drop (k+1)).find? (λe=>(s.g.edges.getD e.toNat []).all (kR s 1)):=by
    conv=>lhs;rw [<-cK k l,mK,H,eI,drop_cons t,mU]
    cases(s.g.edges.getD l[k].toNat []).all (kR s 1)<;>rfl
   apply ev8;simp only [go_sem,getD_map,t,q,n];repeat refine⟨qk,?_⟩
   refine R.kC (Wq s st cl (s.g.edges.getD l[k].toNat []) 1 b) rfl rfl zg ?_;refine ac ?_;refine⟨λi=>?_,λi=>?_⟩
   ·rw [p,af i]
    refine ac ?_;exact R.dS (vc:=_) rfl vp
   ·apply ev8;simp only [go_sem,wrapN (k:=k) qk]
    refine R.fE (k+1) ⟨qk,by rw [bh t,mK,H,eI,mU,i];rfl⟩
  ·have u:¬k<l.length:=uu h
   rw [bi qk]at H;rw [H];refine ac ?_;exact R.dS (vc:=_) rfl vp
 ·have D:(s.state.getD v.toNat 0 !=1)=true:=uu C
  rw [show lQ s v=none by rw [lQ,af (.inr C)]];refine qd d h1 o D ?_;exact R.dS (vc:=_) rfl vp
def G4:aF aa 305:=λ_ _=>qq
variable (z:Se)(st cl:PD)
def IJ(u v:Int):Bool:=(v !=u)&&kR z 2 v
def L3(u v:Int)(h:0<=v)(h1:v.toNat<z.state.length):aG aa 305 [.pd (I v),.ref (I u) 0,.ref (.ptr (sV z st cl)) 0] [B (IJ z u v)]:=by
 refine aG.mk Tryz.func305 λw G=>?_;have e:z.state[v.toNat]=z.state.getD v.toNat 0:=yp
 cases d:(v !=u)
 ·refine zw d ?_
  refine R.rC ?_;unfold IJ;rw [d];rfl
 ·refine z9 d h1 e ?_
  refine qa ?_;refine R.rC ?_;unfold IJ;rw [d];rfl
def FW(u e:Int):Bool:=(z.g.edges.getD e.toNat []).any (IJ z u)
def zh(u:Int):Bool:=(z.state.getD u.toNat 0 !=2)||(z.inc.getD u.toNat []).any λe=>!FW z u e
def CB(v:Int):List Int:=v::(z.inc.getD v.toNat []).flatMap λe=>z.g.edges.getD e.toNat []
def uH(v:Int):Option Int:=if v<0\/¬z.state.getD v.toNat 0=2 then none else(CB z v).find? λu=>!zh z u
abbrev t6:Option Int->PD
 |some e=>stepD 3 e 0 0
 |none=>stepD 0 0 0 0
def N1(v:Int)(hv:v<z.state.length)(he:okE z)(Z:(CB z v).length<100000000):aG aa 195 [.pd (.ptr (sV z st cl)),.pd (I v)] [t6 (uH z v),B (uH z v).isSome]:=by
 obtain⟨J,he2,E⟩:=he;refine aG.mk Tryz.func195 λw G=>?_
 by_cases P:v<0
 ·have N:decide (v<0)=true:=uu P
  rw [show uH z v=none by rw [uH,af (.inl P)]];refine zw N ?_;exact R.dS (vc:=_) rfl vp
 have N:decide (v<0)=false:=uu P;have h1:v.toNat<z.state.length:=qk;have h2:v.toNat<z.inc.length:=qk;have e1:z.state[v.toNat]=z.state.getD v.toNat 0:=yp;have e2:z.inc[v.toNat]=z.inc.getD v.toNat []:=j7
 by_cases O:z.state.getD v.toNat 0=2
 case neg=>
  have d2:(z.state.getD v.toNat 0 !=2)=true:=uu O;rw [show uH z v=none by rw [uH,af (.inr O)]];refine qd N h1 e1 d2 ?_;exact R.dS (vc:=_) rfl vp
 have d2:(z.state.getD v.toNat 0 !=2)=false:=uu O;have K:uH z v=(CB z v).find? λu=>!zh z u:=by rw [uH,ae (by rintro(h|h);exact P h;exact h O)]
 have g:z.inc.getD v.toNat []∈z.inc:=by rw [<-e2];exact am h2
 have hl:=E _ g
 have M:∀u∈CB z v,0<=u/\u.toNat<z.state.length:=by
  intro u o;unfold CB at o;rcases b8.1 o with rfl|o
  ·exact⟨qk,h1⟩
  ·obtain⟨e,h3,h4⟩:=dC.1 o
   obtain⟨U,q⟩:=hl e h3;have L:z.g.edges[e.toNat]=z.g.edges.getD e.toNat []:=by simp [q]
   rw [<-L]at h4;exact J _ (am q) u h4
 rw [K];obtain⟨n,d⟩:∃n,CB z v=n:=⟨_,rfl⟩;rw [d]at Z M⊢;unfold CB at d;generalize z.inc.getD v.toNat []=l at e2 hl d;clear K g
 (refine kP 27 _ _ ?_;simp only [go_sem,↓reduceIte,N,getD_map,h1,e1,d2]);repeat refine⟨qk,?_⟩
 refine R.Vz (u:=.int .i64 v) 1028 rfl rfl rfl rfl qn xf rfl rfl sl35 zq rfl ?_;refine z8 h2 e2 ?_;refine R.bound 35 (sz:=1) (ds:=l.map I) rfl λhl2=>?_;have hl2:l.length<=9223372036854775807:=v4
 have f:∀m,(v::(l.take m).flatMap λe=>z.g.edges.getD e.toNat []).length<=n.length:=λm=>by
  rw [<-d]
  conv=>rhs;rw [<-cK m l,gR]
  simp only [an,bd];omega
 refine R.fU (λ(k:Nat) s=>St.lp [2,4,5,35,36] [(37,.pd (I k)),(6,.own 1028)] [2,4,10] [] [] [(1028,⟨3,1,(v::(l.take k).flatMap λe=>z.g.edges.getD e.toNat []).map I⟩)] s) (λ(k:Nat)=>k<=l.length) (λ(k:Nat)=>l.length-k) (0) qk ?_;intro k hk;refine ac ?_;refine⟨λh=>?_,λh=>?_⟩
 ·have H:k<l.length:=uu h
  obtain⟨U,q⟩:=hl l[k] (am H);have L:z.g.edges[l[k].toNat]=z.g.edges.getD l[k].toNat []:=by simp [q]
  have hp:=f (k+1);have hs:(l.take (k+1)).flatMap (λe=>z.g.edges.getD e.toNat [])=(l.take k).flatMap (λe=>z.g.edges.getD e.toNat [])++z.g.edges.getD l[k].toNat []:=by rw [bh H,gR];simp
  rw [hs]at hp;simp only [an,bd]at hp;apply ev8;simp only [go_sem,getD_map,H,q,L];repeat refine⟨qk,?_⟩
  refine R.append (r:=⟨3,1,(v::(l.take k).flatMap λe=>z.g.edges.getD e.toNat []).map I⟩) (es:=(z.g.edges.getD l[k].toNat []).map I) rfl rfl (ah qn) rfl rfl rfl rfl sl35 rfl zq qr (congrArg (bB aR) Gz) rfl (λi hi=>xt) (by show _*iQ aa 3<=_;rw [Gy];simp only [al,an];omega) (by simp only [maxLen,al,an];omega) ?_;apply ev8;simp only [go_sem,wrapN (k:=k) qk];refine R.fE (k+1) qk (l:=by(simp only [go_sem,hs,bl]);all_goals(and_intros<;>first|rfl))
 have hge:¬k<l.length:=uu h;have A:I v::(l.flatMap λe=>z.g.edges.getD e.toNat []).map I=n.map I:=by rw [<-d];rfl
 rw [bi qk]
 (refine aJ 1 _ _ ?_;simp only [go_sem])
 rw [A];refine ac ?_;clear f A;refine R.fU (λ(k:Nat) s=>St.lp [2,4,52,53] [(54,.pd (I k))] [2,4] [] [1028] [] s) (λ(k:Nat)=>k<=n.length/\(n.take k).find? (λu=>!zh z u)=none) (λ(k:Nat)=>n.length-k) (0) (⟨qk,rfl⟩) ?_;rintro k ⟨hk,a⟩;refine ac ?_;refine⟨λh=>?_,λh=>?_⟩
 ·have H:k<n.length:=uu h
  obtain⟨u,o⟩:∃u,n[k]=u:=⟨_,rfl⟩;obtain⟨U,q⟩:=M n[k] (am H)
  have t:n.find? (λu=>!zh z u)=if(!zh z n[k])=true then some n[k]else(n.drop (k+1)).find? (λu=>!zh z u):=by
   conv=>lhs;rw [<-cK k n,mK,a,eI,drop_cons H,mU]
   cases zh z n[k]<;>rfl
  have p:(n.take (k+1)).find? (λu=>!zh z u)=if(!zh z n[k])=true then some n[k]else none:=by
   rw [bh H,mK,a,eI,mU]
   cases zh z n[k]<;>rfl
  rw [o]at U q t p;have T:u.toNat<z.inc.length:=qk;have L:z.state[u.toNat]=z.state.getD u.toNat 0:=by simp [q]
  have e4:z.inc[u.toNat]=z.inc.getD u.toNat []:=by simp [T]
  have C:=E _ (by rw [<-e4];exact am T:z.inc.getD u.toNat []∈z.inc);have x:zh z u=((z.state.getD u.toNat 0 !=2)||(z.inc.getD u.toNat []).any λe=>!FW z u e):=rfl;generalize z.inc.getD u.toNat []=lu at e4 C x;refine z8 H o ?_;refine R.dA 5 80 mixed qv ?_;simp only [go_sem];refine z8 q L ?_;refine R.dA 9 80 mixed qv ?_;simp only [go_sem,getD_map,T,e4];repeat refine⟨qk,?_⟩
  refine ac ?_;refine R.bound 72 (sz:=1) (ds:=lu.map I) rfl λD=>?_;have D:lu.length<=9223372036854775807:=by simpa [maxLen]using D
  refine R.fU (λ(j:Nat) s=>St.lp [2,4,5,10,52,53,54,72,73] [(74,.pd (I j)),(11,.pd (B ((z.state.getD u.toNat 0 !=2)||(lu.take j).any λe=>!FW z u e)))] [2,4,10] [] [1028] [] s) (λ(j:Nat)=>j<=lu.length) (λ(j:Nat)=>lu.length-j) (0) qk ?_ (by(simp only [go_sem,List.take_zero,List.any_nil,gT]);all_goals(and_intros<;>rfl));intro j hj;refine ac ?_;refine⟨λh=>?_,λh=>?_⟩
  ·have b:j<lu.length:=uu h
   obtain⟨r1,Q⟩:=C lu[j] (am b);have e5:z.g.edges[lu[j].toNat]=z.g.edges.getD lu[j].toNat []:=by simp [Q]
   have X:okV z (z.g.edges.getD lu[j].toNat []):=by rw [<-e5];exact J _ (am Q)
   have hs:((z.state.getD u.toNat 0 !=2)||(lu.take (j+1)).any λe=>!FW z u e)=(((z.state.getD u.toNat 0 !=2)||(lu.take j).any λe=>!FW z u e)||!FW z u lu[j]):=by
    rw [bh b,fk,Bool.or_assoc];simp
   cases hb:((z.state.getD u.toNat 0 !=2)||(lu.take j).any λe=>!FW z u e)
   ·rw [hb]at hs
    have hcl:=dW (z.g.edges.getD lu[j].toNat []) (IJ z u);refine z9 b Q e5 ?_;refine qa ?_;refine R.kC (hcl) rfl rfl (zc (.cons (Co.cl2 (I u) (.ptr (sV z st cl)) rfl rfl G4 (by rintro es r ⟨y,hy,rfl,rfl⟩;have:=X y hy;exact L3 z st cl u y this.1 this.2)) (.nil))) ?_;apply aj;simp only [go_sem,↓reduceIte,wrapN (k:=j) qk];refine R.fE (j+1) qk (l:=xr)
   ·rw [hb]at hs
    apply aj;simp only [go_sem,↓reduceIte,getD_map,b,wrapN (k:=j) qk];repeat refine⟨qk,?_⟩
    refine R.fE (j+1) qk (l:=xr)
  ·have hje:¬j<lu.length:=uu h
   rw [bi qk,<-x]
   cases hq:zh z u
   ·rw [t,hq]
    apply aj;simp only [go_sem,↓reduceIte,cH];exact R.dS (vc:=_) rfl vp
   ·rw [hq]at p
    apply aj;simp only [go_sem,↓reduceIte,bS,wrapN (k:=k) qk];refine R.fE (k+1) ⟨qk,p⟩
 ·have IC:¬k<n.length:=uu h
  rw [bi qk]at a;rw [a];refine ac ?_;exact R.dS (vc:=_) rfl vp
end Go.Proofs.Z
namespace Go.au
def R.aqa{P:Program}{s:St}{k:List KI}{fn:Func}{z:World}{G:Pub}{bs:List (Nat×Nat)}{A:Nat->Option (Nat×Nat)}{ids pn:List Nat}{Q:(Nat->Nat)->mg->List SV->List (Nat×List SV)->List (Nat×Row)->Prop}{all:Array Oper}{l:List Oper}{d O o:Oper}{T d1 d2:Nat}{u v:Value}
  (vars:List (Nat×List SV))(rows:List (Nat×Row))(Z:d.op= .build T #[(0,.const u)])(m:d.guard=none)(x:d.dst=some d1)(X:O.op= .makeInterface T (.tmp d1))(j:O.guard=none)(q:O.dst=some d2)(U:o.op= .panic (.tmp d2))(e:o.guard=none)(H:d1<s.n/\d2<s.n)
  (M:∀w,(mw T #[(0,u)]).run P w= .ok v w)(f:∀w,(pC T v).run P w= .ok (.iface T v) w)(N:∀vb:Nat->Nat,(∀t b,lk t bs=some b->vb t=b)->Q vb (.nJ (.iface T v)) [] vars rows)(J:Has s.var vars)(L:Has s.row rows)
  (D:(vars.all λp=>p.2.all (SV.within (keys bs++keys vars) (keys rows)))=true:=by rfl):R (Cx.fv P z G (bodyPost P fn (iG P z G bs A ids pn Q)) bs A ids pn) (.ops all (d::O::o::l)::k) s:=by
 intro a w E g;refine gX m (v:=v) (by unfold execOp;simp only [Z,Sem.run_bind,cA,ap,ax];show((mw T #[(0,u)]).run P w).andThen _=_;rw [M w];rfl) ?_;rw [x];have C:=g.dead (t:=d1) H.1 v
 have ev1:(a.put (some d1) v).eval (.tmp d1)=v:=by
  have:=dF a d1 v d1 (by rw [g.size];exact H.1);rw [af rfl]at this;exact this
 refine gX j (v:=.iface T v) (by unfold execOp;simp only [X,ev1,Sem.run_bind];show((pC T v).run P w).andThen _=_;rw [f w];rfl) ?_;rw [q];have g2:=C.dead (t:=d2) H.2 (.iface T v)
 have Gv:((a.put (some d1) v).put (some d2) (.iface T v)).eval (.tmp d2)= .iface T v:=by
  have:=dF (a.put (some d1) v) d2 (.iface T v) d2 (by rw [C.size];exact H.2);rw [af rfl]at this;exact this
 refine wpList_plain e λK hK=>?_
 have n:(execOp ((a.put (some d1) v).put (some d2) (.iface T v)).eval o).run P w= .halt (.panic (.iface T v)) w:=by
  unfold execOp;simp [U,Gv,Instr.panic,goPanic]
 unfold Oper.wp;show o.upon P _ K _ ((execOp _ o).run P w);rw [n,Oper.upon_panic];refine jL _ w (TL vars rows N (λt cs h=>?_) (λi r h=>?_) D g2) k
 ·exact J.lk t cs h
 ·exact L.lk i r h
end Go.au
namespace Go.Proofs.Z
open Go.au
variable {i v n:Nat}{l f:List Int}{s:List PD}{g:Gr}
def OE:aF aa 310:=λ_ _=>qq
abbrev GN(b:Nat):PD:=.list 1 [.raw (FC 194 b),.raw (FC 195 b),.raw (FC 196 b),.raw (FC 197 b)]
abbrev dL(z:Se)(b:Nat):List SV:=[.pd (I z.g.n),.pd (ints z.g.cost),.pd (lls z.g.edges),.pd (ways z.ws),.pd (B z.hold),.pd (ints z.order),.pd (lls z.inc),.own 20012,.own 20013,.pd (GN b)]
abbrev Eo(z:Se)(b:Nat):List (Nat×List SV):=[(20011,dL z b),(20014,[.aA 20011 0]),(20015,[.clo 310 [20014,20015]])]
abbrev tu(st:List PD):Row:=⟨225,4,st⟩
abbrev lS(z:Se)(st:List PD):List (Nat×Row):=[(20012,cO z.state),(20013,tu st)]
abbrev zi(st:List PD):Prop:=∀d∈st,∃k a i o,d=stepD k a i o
def FOUND:Value:=.iface 220 (.agg #[.bool true])
def RD(w:World):(mw 220 #[(0,.bool true)]).run aa w= .ok (.agg #[.bool true]) w/\(pC 220 (.agg #[.bool true])).run aa w= .ok FOUND w:=⟨qq,qq⟩
def Ind(z:Se):Prop:=∀e,e<z.g.edges.length->¬(z.g.edges.getD e []).all (kR z 1)=true
structure Inv(z:Se)(i:Nat)(last:Int)(st:List PD):Prop where
 le:i<=z.order.length
 nodup:z.order.Nodup
 ord:okV z z.order
 zero:∀j,i<=j->j<z.order.length->z.state.getD (z.order.getD j 0).toNat 0=0
 edges:okE z
 ways:po z
 inc:∀e,e<z.g.edges.length->∀v∈z.g.edges.getD e [],(e:Int)∈z.inc.getD v.toNat []
 fin:∀e,e<z.g.edges.length->(z.g.edges.getD e []).all (kR z 1)=true->0<=last/\kR z 1 last=true/\last∈z.g.edges.getD e []
 last:last<z.state.length
 near:∀v,(CB z v).length<100000000
 steps:st.length+2 ^ (z.order.length-i+1)<=100000
 IK:zi st
def Inv.ind{z:Se}{l:Int}(h:Inv z i l s)(d:lQ z l=none):Ind z:=by
 intro e b H;obtain⟨g,a,f⟩:=h.fin e b H;have a:z.state.getD l.toNat 0=1:=by simpa [kR]using a
 rw [lQ,ae (by rintro(h|h);omega;exact h a),OD,r4]at d;exact d e (h.inc e b l f) H
def Inv.child{z:Se}{L:Int}{K:List PD}(h:Inv z i L K)(P:Ind z)(t:i<z.order.length){v:Int}(D:z.order[i]=v)(x:Int)(M:s.length+2 ^ (z.order.length-i)<=100000)(n:zi s):Inv {z with state:=z.state.set v.toNat x} (i+1) v s:=by
 obtain⟨J,Q⟩:0<=v/\v.toNat<z.state.length:=D▸h.ord _ (am t);have f:(z.state.set v.toNat x).length=z.state.length:=cc ..
 have g:∀u:Int,0<=u->u≠v->(z.state.set v.toNat x).getD u.toNat 0=z.state.getD u.toNat 0:=λu d g=>by
  simp only [ag,mL];rw [ae qk]
 have a:∀l,okV z l->okV {z with state:=z.state.set v.toNat x} l:=λl E u d=>⟨(E u d).1,by show _<(z.state.set v.toNat x).length;rw [f];exact(E u d).2⟩
 exact{
  le:=t
  nodup:=h.nodup
  ord:=a _ h.ord
  zero:=λj T q=>by
   have b:j<z.order.length:=q;show(z.state.set v.toNat x).getD (z.order.getD j 0).toNat 0=0;have e:z.order.getD j 0=z.order[j]:=by simp [b]
   have o:=(h.ord z.order[j] (am b)).1
   rw [e,g _ o (λr=>by
    have:=(cB.1 h.nodup) i j t b qk;exact this (D.trans r.symm)),<-e]
   exact h.zero j qk b
  edges:=⟨λe A=>a e (h.edges.1 e A),by show z.inc.length=(z.state.set v.toNat x).length;rw [f];exact h.edges.2.1,h.edges.2.2⟩
  ways:=λy C=>⟨a _ (h.ways y C).1,a _ (h.ways y C).2⟩
  inc:=h.inc
  fin:=λe A H=>by
   have k:e<z.g.edges.length:=A;have H:(z.g.edges.getD e []).all (kR {z with state:=z.state.set v.toNat x} 1)=true:=H
   by_cases p:v∈z.g.edges.getD e []
   ·exact⟨J,aM.1 H v p,p⟩
   ·refine(P e k (aM.2 λu d=>?_)).elim
    have O:=aM.1 H u d;have N:z.g.edges.getD e []=z.g.edges[e]:=by simp [k]
    have m:=(h.edges.1 _ (am k) u (N▸d)).1;have G:((z.state.set v.toNat x).getD u.toNat 0==1)=true:=O;rw [g u m (λr=>p (r▸d))]at G;exact G
  last:=by show v<((z.state.set v.toNat x).length:Int);rw [f];omega
  near:=h.near
  steps:=by show _+2 ^ (z.order.length-(i+1)+1)<=_;rw [show z.order.length-(i+1)+1=z.order.length-i by omega];exact M
  IK:=n}
def sp4(k a i o x:Int):spl (stepD k a i o) 3 (I x)=stepD k a i x:=rfl
def zi.set(h:zi s)(n:Nat)(k a i o:Int):zi (s.set n (stepD k a i o)):=λd b=>by
 rcases k4 b with H|H
 ·exact h d H
 ·exact⟨k,a,i,o,H⟩
def Found(z:Se)(i:Nat)(b:Nat)(t:List PD):QV:=λ_ r x v rows=>∃a s,x=[]/\v=Eo z b/\rows=lS {z with state:=s} a/\t.length<=a.length/\a.length+1<=t.length+2 ^ (z.order.length-i+1)/\zi a/\
 ((r= .ret/\s=z.state)\/(r= .nJ FOUND/\s.length=z.state.length/\Ind {z with state:=s}))
abbrev oa(m:Nat):Prop:=∀(z:Se) (i:Nat) (last:Int) (b b' c d:Nat) (st:List PD),b'=b->z.order.length-i=m->Inv z i last st->
 bJ aa 310 [(20011,b'),(20014,c),(20015,d)] [20012] [.pd (I i),.pd (I last),.aA 20014 0,.aA 20015 0] (Eo z b) (lS z st) (Found z i b st)
def zi.snoc(h:zi s)(k a i o:Int):zi (s++[stepD k a i o]):=λd b=>by
 rcases cw.1 b with H|H
 ·exact h d H
 ·exact⟨k,a,i,o,uu H⟩
def zO(d:PD):∀j,j<[d].length->([d].getD j (.ak [])).width=d.width:=λj h=>by
 have:j=0:=uu h;subst this;rfl
def L4(m:Nat)(ih:∀n,n<m->oa n):oa m:=by
 intro z i l b b' c d e hb hm x;subst b';have hle:=x.le;have hst:=x.steps;have avk:0<2 ^ (z.order.length-i):=Nat.two_pow_pos _;rw [pv]at hst;refine bJ.mk Tryz.func310 λw G rb=>?_;have d0:decide ((e.length:Int)>=100000)=false:=b7 qk;refine zw d0 ?_
 have hz:∀j,j<10->Cv (λt=>lk t (Eo z b)) (λt=>lk t (lS z e)) ((dL z b).getD j .dead) ((sV z (.list 4 e) (GN b)).cell j):=λj hj=>match j,hj with
  |0,_=>.pd _|1,_=>.pd _|2,_=>.pd _|3,_=>.pd _|4,_=>.pd _|5,_=>.pd _|6,_=>.pd _|7,_=>.own 20012 (cO z.state) rfl|8,_=>.own 20013 (tu e) rfl|9,_=>.pd _
 refine R.fU (λ(k:Nat) s=>St.lp [0,1,2,3,6,28,29] [(30,.pd (I k))] [20011,20014,20015] [] [20012,20013] [] s) (λ(k:Nat)=>k<=4/\(0<k->lQ z l=none)) (λ(k:Nat)=>4-k) (0) (⟨qk,qk⟩) ?_;rintro k ⟨hk,hcl⟩;refine ac ?_;refine⟨λh=>?_,λh=>?_⟩
 ·have D:k<4:=by
   have h:(k:Int)<((4:Nat):Int):=uu h;omega
  obtain rfl|rfl|rfl|rfl:k=0\/k=1\/k=2\/k=3:=qk
  ·skip
   refine ac ?_;refine⟨qk,?_⟩;obtain⟨K,C,A,O,J⟩:∃k a i o,tn (lQ z l)=stepD k a i o:=(by cases lQ z l<;>exact⟨_,_,_,_,rfl⟩);have u:=G3 z (.list 4 e) (GN b) l x.last x.edges;rw [J]at u;refine R.Oc (f:=194) (t:=20011) (b:=b) (cs:=dL z b) (d:=sV z (.list 4 e) (GN b)) (rs:=[stepD K C A O,B ((lQ z l).isSome)]) rfl rfl rfl (ah qn) qn rfl rfl (a3 10) hz zd u.weak ke ?_
   cases hf:(lQ z l).isSome
   ·refine ar ?_
    refine R.fE 1 ⟨qk,λ_=>vh⟩
   ·refine ar ?_
    refine ac ?_;refine R.qU [20013] [none,none,none,none,some 20013,none,none,some 20013] 60 mixed qv qv (λq hq=>x8) ?_;simp only [go_sem,jq,jl,SV.aY,dw,SV.hard,iq,an,a9,ck,eO,eZ];repeat refine⟨qk,?_⟩
    refine gU.sN qr rfl rfl rfl rfl qn rfl rfl qr rfl rfl PU PW ?_;refine gy 60 _ _ ?_;simp only [go_sem,jq,jl,SV.aY,dw,SV.hard,iq,St.chain,an,a9,ck];repeat refine⟨qk,?_⟩
    refine gU.append (es:=[stepD K C A O]) qr rfl rfl rfl qn rfl rfl rfl rfl PX rfl lX qr (congrArg (bB aR) JJ) rfl (zO _) jn kb ?_;refine gy 60 _ _ ?_;simp only [go_sem,jq,SV.aY,bn,St.chain,cY,dx];repeat refine⟨qk,?_⟩
    refine ac ?_;refine R.rX [(20011,dL z b),(20014,[.aA 20011 0]),(20015,[.clo 310 [20014,20015]])] [(20012,cO z.state),(20013,tu (e++[stepD K C A O]))] [] ?_;intro _ _;exact⟨e++[stepD K C A O],z.state,rfl,rfl,rfl,qr,wc,x.IK.snoc _ _ _ _,.inl ⟨rfl,rfl⟩⟩
  ·skip
   refine ac ?_;refine⟨qk,?_⟩;obtain⟨K,C,A,O,J⟩:∃k a i o,t6 (uH z l)=stepD k a i o:=(by cases uH z l<;>exact⟨_,_,_,_,rfl⟩);have u:=N1 z (.list 4 e) (GN b) l x.last x.edges (x.near l);rw [J]at u;refine R.Oc (f:=195) (t:=20011) (b:=b) (cs:=dL z b) (d:=sV z (.list 4 e) (GN b)) (rs:=[stepD K C A O,B ((uH z l).isSome)]) rfl rfl rfl (ah qn) qn rfl rfl (a3 10) hz zd u.weak ke ?_
   cases hf:(uH z l).isSome
   ·refine ar ?_
    refine R.fE 2 ⟨qk,λ_=>vh⟩
   ·refine ar ?_
    refine ac ?_;refine R.qU [20013] [none,none,none,none,some 20013,none,none,some 20013] 60 mixed qv qv (λq hq=>x8) ?_;simp only [go_sem,jq,jl,SV.aY,dw,SV.hard,iq,an,a9,ck,eO,eZ];repeat refine⟨qk,?_⟩
    refine gU.sN qr rfl rfl rfl rfl qn rfl rfl qr rfl rfl PU PW ?_;refine gy 60 _ _ ?_;simp only [go_sem,jq,jl,SV.aY,dw,SV.hard,iq,St.chain,an,a9,ck];repeat refine⟨qk,?_⟩
    refine gU.append (es:=[stepD K C A O]) qr rfl rfl rfl qn rfl rfl rfl rfl PX rfl lX qr (congrArg (bB aR) JJ) rfl (zO _) jn kb ?_;refine gy 60 _ _ ?_;simp only [go_sem,jq,SV.aY,bn,St.chain,cY,dx];repeat refine⟨qk,?_⟩
    refine ac ?_;refine R.rX [(20011,dL z b),(20014,[.aA 20011 0]),(20015,[.clo 310 [20014,20015]])] [(20012,cO z.state),(20013,tu (e++[stepD K C A O]))] [] ?_;intro _ _;exact⟨e++[stepD K C A O],z.state,rfl,rfl,rfl,qr,wc,x.IK.snoc _ _ _ _,.inl ⟨rfl,rfl⟩⟩
  ·skip
   refine ac ?_;refine⟨qk,?_⟩;obtain⟨K,C,A,O,J⟩:∃k a i o,(if z.hold then stepD 0 0 0 0 else stepD 4 (if 0>jC (FV z) z.ws then 0 else jC (FV z) z.ws) 0 0)=stepD k a i o:=(by cases z.hold<;>exact⟨_,_,_,_,rfl⟩);have u:=Sx z (.list 4 e) (GN b) l x.ways;rw [J]at u;refine R.Oc (f:=196) (t:=20011) (b:=b) (cs:=dL z b) (d:=sV z (.list 4 e) (GN b)) (rs:=[stepD K C A O,B (mi z)]) rfl rfl rfl (ah qn) qn rfl rfl (a3 10) hz zd u.weak ke ?_
   cases hf:mi z
   ·refine ar ?_
    refine R.fE 3 ⟨qk,λ_=>vh⟩
   ·refine ar ?_
    refine ac ?_;refine R.qU [20013] [none,none,none,none,some 20013,none,none,some 20013] 60 mixed qv qv (λq hq=>x8) ?_;simp only [go_sem,jq,jl,SV.aY,dw,SV.hard,iq,an,a9,ck,eO,eZ];repeat refine⟨qk,?_⟩
    refine gU.sN qr rfl rfl rfl rfl qn rfl rfl qr rfl rfl PU PW ?_;refine gy 60 _ _ ?_;simp only [go_sem,jq,jl,SV.aY,dw,SV.hard,iq,St.chain,an,a9,ck];repeat refine⟨qk,?_⟩
    refine gU.append (es:=[stepD K C A O]) qr rfl rfl rfl qn rfl rfl rfl rfl PX rfl lX qr (congrArg (bB aR) JJ) rfl (zO _) jn kb ?_;refine gy 60 _ _ ?_;simp only [go_sem,jq,SV.aY,bn,St.chain,cY,dx];repeat refine⟨qk,?_⟩
    refine ac ?_;refine R.rX [(20011,dL z b),(20014,[.aA 20011 0]),(20015,[.clo 310 [20014,20015]])] [(20012,cO z.state),(20013,tu (e++[stepD K C A O]))] [] ?_;intro _ _;exact⟨e++[stepD K C A O],z.state,rfl,rfl,rfl,qr,wc,x.IK.snoc _ _ _ _,.inl ⟨rfl,rfl⟩⟩
  ·skip
   refine ac ?_;refine⟨qk,?_⟩;obtain⟨K,C,A,O,J⟩:∃k a i o,stepD 5 0 0 0=stepD k a i o:=⟨_,_,_,_,rfl⟩;have u:=N0 z (.list 4 e) (GN b) l x.ways;rw [J]at u;refine R.Oc (f:=197) (t:=20011) (b:=b) (cs:=dL z b) (d:=sV z (.list 4 e) (GN b)) (rs:=[stepD K C A O,B (Uk z)]) rfl rfl rfl (ah qn) qn rfl rfl (a3 10) hz zd u.weak ke ?_
   cases hf:Uk z
   ·refine ar ?_
    refine R.fE 4 ⟨qk,λ_=>vh⟩
   ·refine ar ?_
    refine ac ?_;refine R.qU [20013] [none,none,none,none,some 20013,none,none,some 20013] 60 mixed qv qv (λq hq=>x8) ?_;simp only [go_sem,jq,jl,SV.aY,dw,SV.hard,iq,an,a9,ck,eO,eZ];repeat refine⟨qk,?_⟩
    refine gU.sN qr rfl rfl rfl rfl qn rfl rfl qr rfl rfl PU PW ?_;refine gy 60 _ _ ?_;simp only [go_sem,jq,jl,SV.aY,dw,SV.hard,iq,St.chain,an,a9,ck];repeat refine⟨qk,?_⟩
    refine gU.append (es:=[stepD K C A O]) qr rfl rfl rfl qn rfl rfl rfl rfl PX rfl lX qr (congrArg (bB aR) JJ) rfl (zO _) jn kb ?_;refine gy 60 _ _ ?_;simp only [go_sem,jq,SV.aY,bn,St.chain,cY,dx];repeat refine⟨qk,?_⟩
    refine ac ?_;refine R.rX [(20011,dL z b),(20014,[.aA 20011 0]),(20015,[.clo 310 [20014,20015]])] [(20012,cO z.state),(20013,tu (e++[stepD K C A O]))] [] ?_;intro _ _;exact⟨e++[stepD K C A O],z.state,rfl,rfl,rfl,qr,wc,x.IK.snoc _ _ _ _,.inl ⟨rfl,rfl⟩⟩
 ·have hge:¬k<4:=λD=>by
   have h:¬(k:Int)<((4:Nat):Int):=uu h;omega
  have hc:=hcl qk;have Bo:=x.ind hc;clear hcl hz;refine ac ?_;refine⟨λh1=>?_,λh1=>?_⟩
  ·(refine aJ 1 _ _ ?_;simp only [go_sem])
   refine R.aqa (v:=.agg #[.bool true]) (Eo z b) (lS z e) rfl rfl rfl rfl rfl rfl rfl rfl qr (λw=>(RD w).1) (λw=>(RD w).2) ?_ ⟨rfl,rfl,rfl,trivial⟩ ⟨rfl,rfl,trivial⟩;intro _ _;exact⟨e,z.state,rfl,rfl,rfl,a3 _,uc,x.IK,.inr ⟨rfl,rfl,Bo⟩⟩
  ·have D:i<z.order.length:=by
    have h1:¬(i:Int)=z.order.length:=uu h1;omega
   obtain⟨v,hv⟩:∃v,z.order[i]=v:=⟨_,rfl⟩;obtain⟨v0,v1⟩:0<=v/\v.toNat<z.state.length:=hv▸x.ord _ (am D);refine R.bound 56 (sz:=1) (ds:=z.order.map I) rfl λhob=>?_;have hob:z.order.length<=9223372036854775807:=by simpa [maxLen]using hob
   have wi:IntKind.i64.wrap ((i:Int)+1)=((i+1:Nat):Int):=wrapN qk;have ws:IntKind.i64.wrap ((e.length:Int)+1)=((e.length+1:Nat):Int):=wrapN qk;refine z8 D hv ?_;refine R.qU [20013] [none,none,none,none,some 20013,none,none,none,none,none,some 20013] 60 mixed qv qv (λq hq=>x8) ?_;simp only [go_sem,jq,jl,SV.aY,dw,SV.hard,iq,an,a9,ck,eO,eZ];repeat refine⟨qk,?_⟩
   refine gU.sN qr rfl rfl rfl rfl qn rfl rfl qr rfl rfl PU PW ?_;refine gy 60 _ _ ?_;simp only [go_sem,jq,dw,iq,St.chain,an,a9,ck,List.nil_append];simp only [ws];refine gU.append (es:=[stepD 1 v ((e.length+1:Nat):Int) 0]) qr rfl rfl rfl qn rfl rfl rfl rfl PX rfl lX qr (congrArg (bB aR) JJ) rfl (zO _) jn kb ?_;refine gy 60 _ _ ?_;simp only [go_sem,jq,SV.aY,bn,St.chain,cY,dx];apply ev8;simp only [go_sem,v1,Rj,Rk,getD_map,wi];repeat refine⟨qk,?_⟩
   have H:zi (e++[stepD 1 v ((e.length+1:Nat):Int) 0]):=x.IK.snoc _ _ _ _;refine R.cX [(20011,dL z b),(20014,[.aA 20011 0]),(20015,[.clo 310 [20014,20015]])] [(20012,cO (z.state.set v.toNat 1)),(20013,tu (e++[stepD 1 v ((e.length+1:Nat):Int) 0]))] [] [20012] rfl rfl rfl (λN T=>ih (m-1) qk {z with state:=z.state.set v.toNat 1} (i+1) v b (N 20011) (N 20014) (N 20015) (e++[stepD 1 v ((e.length+1:Nat):Int) 0]) (T 20011 b rfl) (by show z.order.length-(i+1)=m-1;omega) (x.child Bo D hv 1 (by simp only [bd,an,a9];omega) H)) rfl zv OE ?_;rintro N-dn res ys vars rows ⟨st2,p,rfl,rfl,rfl,IC,r,H,M⟩
   have P:(st2).length+1<=(e++[stepD 1 v ((e.length+1:Nat):Int) 0]).length+2 ^ (z.order.length-i):=by
    have h9:(st2).length+1<=(e++[stepD 1 v ((e.length+1:Nat):Int) 0]).length+2 ^ (z.order.length-(i+1)+1):=r
    rwa [show z.order.length-(i+1)+1=z.order.length-i by omega]at h9
   have U:(e++[stepD 1 v ((e.length+1:Nat):Int) 0]).length<=(st2).length:=IC;simp only [bd,an,a9]at P U;clear IC r;rcases M with⟨rfl,rfl⟩|⟨rfl,L,Z⟩
   rotate_left
   ·refine⟨rfl,⟨⟨_,_,rfl,rfl,uu L,rfl⟩,trivial⟩,λa w E g=>TL (Eo z b) (lS {z with state:=p} (st2)) (λ_ _=>?_) (Has.lk ⟨rfl,rfl,rfl,trivial⟩) (Has.lk ⟨rfl,rfl,trivial⟩) rfl g⟩
    exact⟨st2,p,rfl,rfl,rfl,qk,uc,H,.inr ⟨rfl,L.trans (cc ..),Z⟩⟩
   refine⟨rfl,rfl,⟨⟨_,_,rfl,rfl,rfl,rfl⟩,trivial⟩,?_⟩;have hq:e.length<st2.length:=qk;obtain⟨Q,a2,i2,o2,hq2⟩:=H st2[e.length] (am hq);have hq3:st2.getD e.length (.ak [])=stepD Q a2 i2 o2:=by rw [<-hq2];simp [hq]
   have hv2:v.toNat<(z.state.set v.toNat 1).length:=by rw [cc];exact v1
   refine ac ?_;refine R.dA 10 80 mixed qv ?_;simp only [go_sem];apply ev8;simp only [go_sem,hq3,sp4,v1,cc,Rj,Rk,getD_map,wi];repeat refine⟨qk,?_⟩
   rw [List.set_set];have H:=H.set e.length Q a2 i2 st2.length;have hb2:=P;clear hq2 hq3 hq;refine R.cX [(20011,dL z b),(20014,[.aA 20011 0]),(20015,[.clo 310 [20014,20015]])] [(20012,cO (z.state.set v.toNat 2)),(20013,tu (st2.set e.length (stepD Q a2 i2 st2.length)))] [] [20012] rfl rfl rfl (λN T=>ih (m-1) qk {z with state:=z.state.set v.toNat 2} (i+1) v b (N 20011) (N 20014) (N 20015) (st2.set e.length (stepD Q a2 i2 st2.length)) (T 20011 b rfl) (by show z.order.length-(i+1)=m-1;omega) (x.child Bo D hv 2 (by simp only [cc];omega) H)) rfl zv OE ?_;rintro N-dn res ys vars rows ⟨xw,p,rfl,rfl,rfl,IC,r,H,M⟩
   have P:(xw).length+1<=(st2.set e.length (stepD Q a2 i2 st2.length)).length+2 ^ (z.order.length-i):=by
    have h9:(xw).length+1<=(st2.set e.length (stepD Q a2 i2 st2.length)).length+2 ^ (z.order.length-(i+1)+1):=r
    rwa [show z.order.length-(i+1)+1=z.order.length-i by omega]at h9
   have U:(st2.set e.length (stepD Q a2 i2 st2.length)).length<=(xw).length:=IC;simp only [cc]at P U;clear IC r;rcases M with⟨rfl,rfl⟩|⟨rfl,L,Z⟩
   rotate_left
   ·refine⟨rfl,⟨⟨_,_,rfl,rfl,uu L,rfl⟩,trivial⟩,λa w E g=>TL (Eo z b) (lS {z with state:=p} (xw)) (λ_ _=>?_) (Has.lk ⟨rfl,rfl,rfl,trivial⟩) (Has.lk ⟨rfl,rfl,trivial⟩) rfl g⟩
    exact⟨xw,p,rfl,rfl,rfl,qk,uc,H,.inr ⟨rfl,L.trans (cc ..),Z⟩⟩
   refine⟨rfl,rfl,⟨⟨_,_,rfl,rfl,rfl,rfl⟩,trivial⟩,?_⟩
   have hz0:z.state.getD v.toNat 0=0:=by
    have:=x.zero i (a3 _) D
    rwa [show z.order.getD i 0=v by rw [<-hv];simp [D]]at this
   have X:((z.state.set v.toNat 2).set v.toNat 0)=z.state:=by
    rw [List.set_set];have h9:z.state[v.toNat]=0:=by rw [<-hz0];simp [v1]
    rw [<-h9];exact List.set_getElem_self _
   have hv3:v.toNat<(z.state.set v.toNat 2).length:=by rw [cc];exact v1
   apply ev8;simp only [go_sem,v1,cc,Rj,Rk,getD_map];repeat refine⟨qk,?_⟩
   rw [X];refine R.oX [(20011,dL z b),(20014,[.aA 20011 0]),(20015,[.clo 310 [20014,20015]])] [(20012,cO z.state),(20013,tu xw)] [] ?_;intro _ _;exact⟨xw,z.state,rfl,rfl,rfl,qk,uc,H,.inl ⟨rfl,rfl⟩⟩
def Sy(m:Nat):oa m:=by
 induction m using eS with
 |_ m i=>exact L4 m i
def GA:aF aa 204:=λ_ _=>qq
def Ws:aF aa 201:=λ_ _=>qq
def KU(n:List Bool)(k:Nat):List Int:=((aw k).filter λi=>n.getD i false).map Int.ofNat
def L5(i:List Bool)(k:Nat):KU i (k+1)=if i.getD k false=true then KU i k++[(k:Int)]else KU i k:=by
 unfold KU;rw [fz,eV]
 cases h:i.getD k false<;>simp only [cI,i7,h,a7,b6,ba,bl,el,ap,ax]<;>rfl
def N3(i:List Bool)(k:Nat):(KU i k).length<=k:=by
 unfold KU;rw [al];exact bz (gC ..) qr
def zk(g:Gr)(a:List (List Int))(i:List Bool)(f:List Int)(k:Nat):Bool:=!i.getD k false && !L6 g a f k
def KW(p:Nat->Bool)(n:Nat):Int:=match(aw n).find? p with|some k=>k|none=>-1
def L7{p:Nat->Bool}{k:Nat}(h:k<n)(b:(aw k).all (λi=>!p i)=true)(a:p k=true):KW p n=k:=by
 unfold KW
 have:(aw n).find? p=some k:=by
  rw [List.find?_range_eq_some];exact⟨a,uu h,λj H=>(aM.1 b) j (cd.2 H)⟩
 rw [this]
def LA{p:Nat->Bool}(H:(aw n).all (λi=>!p i)=true):KW p n= -1:=by
 unfold KW;rw [r4.2 λx h=>by have:=(aM.1 H) x h;simpa using this]
def LB(b:Nat)(g:Gr)(a:List (List Int))(n:List Bool)(l:List Int)(C:n.length<1000000000)(hi:a.length=n.length)(z:∀v,v<a.length->∀e∈a.getD v [],0<=e/\e.toNat<l.length)(x:l.length=g.edges.length):
  bJ aa 201 [(20001,b)] [20002,20003] [.own 20002,.pd (.raw (FC 202 b))] [(20001,gB g a)] [(20002,gI n),(20003,cO l)]
   (λ_ res xs vars rows=>res= .ret/\xs=[.pd (I (KW (zk g a n l) n.length))]/\vars=[(20001,gB g a)]/\rows=[(20002,gI n),(20003,cO l)]):=by
 refine bJ.mk Tryz.func201 λw G A=>?_;refine ac ?_;refine R.fU (λ(k:Nat) s=>St.lp [1,7,8] [(9,.pd (I k))] [20001] [] [20002,20003] [] s) (λ(k:Nat)=>k<=n.length/\(aw k).all (λi=>!zk g a n l i)=true) (λ(k:Nat)=>n.length-k) (0) (⟨qk,rfl⟩) ?_;rintro k ⟨D,H⟩;refine ac ?_;refine⟨λh=>?_,λh=>?_⟩
 ·have hlt:k<n.length:=uu h
  have E:n[k]=n.getD k false:=yo;have m:(aw (k+1)).all (λi=>!zk g a n l i)=!zk g a n l k:=by rw [LZ,H,eJ]
  cases o:n.getD k false
  ·have p:zk g a n l k=!L6 g a l k:=by unfold zk;rw [o];rfl
   apply aj;simp only [go_sem,↓reduceIte,getD_map,hlt,E,o,cH];repeat refine⟨qk,?_⟩
   refine R.Oc (f:=202) (t:=20001) (b:=b) (cs:=gB g a) (d:=stD g a n l) (rs:=[B (L6 g a l k)]) rfl rfl rfl (ah qn) qn rfl rfl (a3 6) (λj r=>match j,r with|0,_=>.pd _|1,_=>.pd _|2,_=>.pd _|3,_=>.own 20002 (gI n) rfl|4,_=>.own 20003 (cO l) rfl|5,_=>.pd _) zd (Og g a n l k qk (z k qk) x).weak ke ?_
   cases q:L6 g a l k
   ·rw [q]at p
    apply aj;simp only [go_sem,↓reduceIte,cH];refine R.rX [(20001,gB g a)] [(20002,gI n),(20003,cO l)] [.pd (I k)] ?_;intro _ _;exact⟨rfl,by rw [L7 hlt H p],rfl,rfl⟩
   ·rw [q]at p
    apply aj;simp only [go_sem,↓reduceIte,bS,wrapN (k:=k) qk];refine R.fE (k+1) ⟨qk,by rw [m,p];rfl⟩
  ·have p:zk g a n l k=false:=by unfold zk;rw [o];rfl
   apply aj;simp only [go_sem,↓reduceIte,getD_map,hlt,E,o,bS,wrapN (k:=k) qk];repeat refine⟨qk,?_⟩
   refine R.fE (k+1) ⟨qk,by rw [m,p];rfl⟩
 ·have u:¬k<n.length:=uu h
  refine ac ?_;refine R.rX [(20001,gB g a)] [(20002,gI n),(20003,cO l)] [.pd (I (-1))] ?_;intro _ _;rw [show k=n.length by omega]at H;exact⟨rfl,by rw [LA H],rfl,rfl⟩
def GB:aF aa 200:=λ_ _=>qq
def GC:aF aa 311:=λ_ _=>qq
structure GI(g:Gr)(inc:List (List Int)):Prop where
 len:inc.length=g.n
 rng:∀v,v<inc.length->∀e∈inc.getD v [],0<=e/\e.toNat<g.edges.length
 mem:∀v,v<inc.length->∀e:Int,e∈inc.getD v []->(v:Int)∈g.edges.getD e.toNat []
 all:∀e,e<g.edges.length->∀v∈g.edges.getD e [],0<=v/\v.toNat<g.n/\(e:Int)∈inc.getD v.toNat []
 nd:∀v,v<inc.length->(inc.getD v []).Nodup
 ed:∀e,e<g.edges.length->(g.edges.getD e []).Nodup/\(g.edges.getD e []).length<1000000
def Qw(g:Gr)(i:List Bool)(e:Nat):Nat:=(g.edges.getD e []).countP λv=>i.getD v.toNat false
def okC(g:Gr)(i:List Bool)(f:List Int):Prop:=f.length=g.edges.length/\∀e,e<g.edges.length->f.getD e 0=Qw g i e
def RF(f:List Int)(i j:Nat)(x:Int)(hi:i<f.length):(f.set i x).getD j 0=if i=j then x else f.getD j 0:=by
 simp only [ag,mL]
 split
 ·rename_i h;subst h;simp []
 ·rfl
def LF(l:List Int):∀(f:List Int),l.Nodup->(∀e∈l,0<=e/\e.toNat<f.length)->(∀j,j<f.length->0<=f.getD j 0/\f.getD j 0+l.length<1000000000)->∀j,j<f.length->(nK 1 l f).getD j 0=f.getD j 0+if(j:Int)∈l then 1 else 0:=by
 induction l with
 |nil=>intro f _ _ _ j _;simp [nK]
 |cons e l q=>
  intro f d r p j t;obtain⟨v,o⟩:=r e (bk ..);obtain⟨u,n⟩:=p e.toNat o;simp only [an]at n;have s:IntKind.i64.wrap (f.getD e.toNat 0+1)=f.getD e.toNat 0+1:=wrap64 qk qk;rw [nK,s];obtain⟨g,b⟩:=dE.1 d;have h:(f.set e.toNat (f.getD e.toNat 0+1)).length=f.length:=cc ..
  rw [q _ b (λE i=>by rw [h];exact r E (b3 _ i)) (λJ H=>by
   rw [h]at H;have m:=p J H;simp only [an]at m;rw [RF _ _ _ _ o]
   split<;>omega) j (by rw [h];exact t),RF _ _ _ _ o]
  by_cases a:e.toNat=j
  ·have k:(j:Int)=e:=qk
   subst a;rw [af rfl,k,ae g,af (bk ..)];omega
  ·have k:¬(j:Int)=e:=qk
   rw [ae a];simp [b8,k]
def countP_set{i:List Bool}(h:l.Nodup)(d:∀u∈l,0<=u)(j:v<i.length)(k:i.getD v false=false):(l.countP λu=>(i.set v true).getD u.toNat false)=(l.countP λu=>i.getD u.toNat false)+if(v:Int)∈l then 1 else 0:=by
 induction l with
 |nil=>simp
 |cons u l f=>
  obtain⟨a,H⟩:=dE.1 h;have n:=d u (bk ..);rw [gP,gP,f H λw g=>d w (b3 _ g)]
  by_cases e:v=u.toNat
  ·have b:(v:Int)=u:=qk
   have E:(i.set v true).getD u.toNat false=true:=by subst e;simp [j]
   have m:i.getD u.toNat false=false:=by rw [<-e];exact k
   rw [E,m,b,ae a,af (bk ..)];simp
  ·have b:¬(v:Int)=u:=qk
   have E:(i.set v true).getD u.toNat false=i.getD u.toNat false:=by
    simp only [ag,mL];rw [ae e]
   rw [E];simp only [b8,b,false_or];omega
def RG:∀(n:Nat) (l:List Nat),l.Nodup->(∀x∈l,x<n)->l.length<=n
 |0,[],_,_=>a3 _
 |0,x::l,_,h=>by have:=h x (bk ..);omega
 |n+1,l,b,h=>by
  have i:=RG n (l.erase n) (b.erase n) (λx H=>by
   have g:=h x (List.mem_of_mem_erase H);have f:x≠n:=λe=>by subst e;exact(List.Nodup.not_mem_erase b) H
   omega)
  have d:=List.length_erase (a:=n) (l:=l)
  split at d<;>omega
def okC.put{i:List (List Int)}{n:List Bool}(H:GI g i)(h:okC g n f)(J:n.length=g.n)(L:g.edges.length<1000000)(s:v<n.length)(A:n.getD v false=false):okC g (n.set v true) (nK 1 (i.getD v []) f):=by
 have U:v<i.length:=by rw [H.len];omega
 refine⟨(FH ..).trans h.1,λe d=>?_⟩
 have p:(i.getD v []).length<=g.edges.length:=by
  have k:((i.getD v []).map Int.toNat).Nodup:=by
   refine(eg.2 ((H.nd v U).imp_of_mem λ{a b} E C D=>?_));have:=(H.rng v U a E).1;have:=(H.rng v U b C).1;omega
  have:=RG g.edges.length _ k (λx r=>by
   obtain⟨y,q,rfl⟩:=aq.1 r;exact(H.rng v U y q).2)
  simpa using this
 rw [LF _ _ (H.nd v U) (λG o=>by rw [h.1];exact H.rng v U G o) (λj l=>?_) e (by rw [h.1];exact d),h.2 e d]
 ·unfold Qw
  rw [countP_set (H.ed e d).1 (λu t=>(H.all e d u t).1) s A];have:((e:Int)∈i.getD v [])↔((v:Int)∈g.edges.getD e []):=⟨λm=>uu (H.mem v U e m),λm=>uu ((H.all e d v m).2.2)⟩
  by_cases m:(e:Int)∈i.getD v []
  ·rw [af m,af (this.1 m)];simp
  ·rw [ae m,ae (λz=>m (this.2 z))];simp
 ·rw [h.1]at l
  rw [h.2 j l];have K:Qw g n j<=(g.edges.getD j []).length:=iv;have:=(H.ed j l).2;omega
def pp(g:Gr)(l:List Int):Prop:=∀e,e<g.edges.length->∃u∈g.edges.getD e [],u∉l
def S0{a:List (List Int)}{i:List Bool}(G:GI g a)(h:okC g i f)(L:pp g l)(s:∀u:Int,0<=u->i.getD u.toNat false=true->u∈l)(K:v<g.n)(m:(v:Int)∈l)(N:i.getD v false=false):L6 g a f v=false:=by
 unfold L6;rw [eW];intro e C d;have U:v<a.length:=by rw [G.len];exact K
 obtain⟨O,k⟩:=G.rng v U e C;have q:=G.mem v U e C;obtain⟨p,t⟩:=G.ed e.toNat k;have H:=h.2 e.toNat k;unfold Ud at d;obtain⟨u,n,b⟩:=L e.toNat k;have E:=λx J=>(G.all e.toNat k x J).1;unfold Qw at H;generalize g.edges.getD e.toNat []=ed at q p t H d n E;have z:0<ed.length:=List.length_pos_of_mem q;rw [H,wrap64 qk qk]at d;have d:((ed.countP λv=>i.getD v.toNat false:Nat):Int)=(ed.length:Int)-1:=uu d;have A:=List.perm_cons_erase q;have D:=A.countP_eq λv=>i.getD v.toNat false;rw [gP,Int.toNat_natCast,N]at D;have r:=A.length_eq;simp only [an]at r;have j:(ed.erase (v:Int)).countP (λv=>i.getD v.toNat false)=(ed.erase (v:Int)).length:=by simp only [b6,ba,Nat.add_zero]at D;omega
 have o:u≠v:=λM=>b (M▸m);have:=m4.1 j u ((List.mem_erase_of_ne o).2 n);exact b (s u (E u n) this)
abbrev tp(g:Gr)(inc:List (List Int)):QV:=λ_ res xs vars rows=>res= .ret/\xs=[.aA 20001 0]/\vars=[(20001,gB g inc)]/\rows=[(20002,gI (av g.n false)),(20003,cO (av g.edges.length 0))]
abbrev vy(g:Gr)(inc:List (List Int)):QV:=λ_ res xs vars rows=>∃inn full,res= .ret/\xs=[.aA 20001 0,.pd (B true)]/\vars=[(20001,gB g inc)]/\rows=[(20002,gI inn),(20003,cO full)]/\inn.length=g.n/\full.length=g.edges.length
def N4(g:Gr)(i:List (List Int))(l:List Int)(L:GI g i)(hn:g.n<1000000)(hE:g.edges.length<1000000)(hV:bg aa 28 [.pd (pY g)] [B true])(hB:bJ aa 311 [] [] [.pd (pY g)] [] [] (tp g i))(z:l.Pairwise (· < ·))(A:∀v∈l,0<=v/\v<g.n)(hI:pp g l):
  bJ aa 200 [] [] [.pd (pY g),.pd (ints l)] [] [] (vy g i):=by
 refine bJ.mk Tryz.func200 λw G rb=>?_;refine ac ?_;refine R.kW (hV) rfl rfl zd ?_;apply aj;simp only [go_sem,↓reduceIte,bS];refine R.cX [] [] [20001] [] rfl rfl rfl (λK N=>hB) rfl zp GC ?_;rintro K-dn M ys o rows ⟨rfl,rfl,rfl,rfl⟩;refine⟨rfl,rfl,trivial,?_⟩;refine ac ?_;refine R.bound 15 (sz:=1) (ds:=l.map I) rfl λhl2=>?_;have hl2:l.length<=9223372036854775807:=v4;refine R.fU (λ(p:Nat×Int×List Bool×List Int) s=>St.lp [2,6,15,16] [(17,.pd (I p.1)),(7,.pd (I p.2.1))] [2,20001] [] [] [(20002,gI p.2.2.1),(20003,cO p.2.2.2)] s) (λ(p:Nat×Int×List Bool×List Int)=>p.1<=l.length/\(∀(h:p.1<l.length),p.2.1<l[p.1])/\p.2.2.1.length=g.n/\okC g p.2.2.1 p.2.2.2/\∀u:Int,0<=u->p.2.2.1.getD u.toNat false=true->u∈l.take p.1) (λ(p:Nat×Int×List Bool×List Int)=>l.length-p.1) ((0,-1,av g.n false,av g.edges.length 0)) (⟨q6,λh=>by simp only;have:=(A l[0] (am h)).1;omega,qr,⟨qr,λe T=>?_⟩,λu _ r=>?_⟩) ?_
 ·have d:(av g.edges.length (0:Int)).getD e 0=0:=by simp [ag,T]
  have X:Qw g (av g.n false) e=0:=by
   unfold Qw;rw [rj];intro u _ E;simp only [ag,ie]at E
   split at E<;>cases E
  rw [d,X];rfl
 ·simp only [ag,ie]at r
  split at r<;>cases r
 rintro⟨k,pr,n,f⟩ ⟨hk,t,b,C,a⟩;simp only at hk t b C a;refine ac ?_;refine⟨λh=>?_,λh=>?_⟩
 ·have H:k<l.length:=uu h
  obtain⟨x0,xn⟩:=A l[k] (am H);have hp:=t H;obtain⟨v,m⟩:∃v:Nat,l[k]=v:=⟨l[k].toNat,qk⟩;have x:(v:Int)∈l:=m▸am H;rw [m]at hp x0 xn;have q:v<g.n:=qk;have d1:decide ((v:Int)<=pr)=false:=b7 qk;have d2:decide ((v:Int)>=g.n)=false:=b7 qk
  have hf:n.getD v false=false:=by
   cases E:n.getD v false with
   |false=>rfl
   |true=>
    have d:=a v qk (uu E);obtain⟨j,Q,O⟩:=bN d;have P:j<k:=by simp at Q;omega
    have X:=(cB.1 z) j k qk H P;rw [m]at X;simp at O;omega
  have D:∀u:Int,0<=u->n.getD u.toNat false=true->u∈l:=λu Z d=>lv (a u Z d);have J:=S0 L C hI D q x hf;have U:v<i.length:=by rw [L.len];exact q
  have FX:∀e∈i.getD v [],0<=e/\e.toNat<f.length:=λe T=>by rw [C.1];exact L.rng v U e T
  refine qd H m d1 d2 ?_;refine qa ?_;refine R.kC (Og g i n f v U FX C.1) rfl rfl (.cons (.ptr 20001 (gB g i) (stD g i n f) rfl (a3 6) (λj Q=>match j,Q with|0,_=>.pd _|1,_=>.pd _|2,_=>.pd _|3,_=>.own 20002 (gI n) rfl|4,_=>.own 20003 (cO f) rfl|5,_=>.pd _)) zd) ?_;refine zw J ?_;refine R.cX [(20001,gB g i)] [(20002,gI n),(20003,cO f)] [] [20002,20003] rfl rfl rfl (λK N=>Yz (K 20001) g i n f v true qk U qk FX) rfl zt VA ?_;rintro K-dn M ys o rows ⟨rfl,rfl,rfl,rfl⟩;refine⟨rfl,rfl,⟨⟨_,_,rfl,rfl,qr,rfl⟩,⟨_,_,rfl,rfl,by simp [FH],rfl⟩,trivial⟩,?_⟩;apply ev8;simp only [go_sem,wrapN (k:=k) qk];refine R.fE (k+1,(v:Int),n.set v true,nK 1 (i.getD v []) f) ⟨q6,λh9=>by simp only at h9⊢;have:=(cB.1 z) k (k+1) H h9 qk;rwa [m]at this,by simp [b],C.put L b hE qk hf,λu Z d=>?_⟩;simp only at d⊢;rw [bh H,m]
  by_cases r:v=u.toNat
  ·exact g9 _ qz
  ·refine eR _ (a u Z ?_)
   simp only [ag,mL]at d⊢
   rwa [ae r]at d
 ·have hge:¬k<l.length:=uu h
  refine ac ?_;refine R.rX [(20001,gB g i)] [(20002,gI n),(20003,cO f)] [.aA 20001 0,.pd (B true)] ?_;intro _ _;exact⟨n,f,rfl,rfl,rfl,rfl,b,C.1⟩
def A5:(aa.info? 4).map (λi=>(i.zero,i.size,i.bytes))=some (some (.bool false),1,1):=qq
def Wu:(aa.info? 3).map (λi=>(i.zero,i.size,i.bytes))=some (some (.int .i64 0),1,8):=qq
def v3:(aa.info? 35).map (λi=>(i.zero,i.size,i.bytes))=some (some (.slice none 0 0),1,24):=qq
def LI(v v1 v2:Value)(a P p:Option Addr)(b e N d n C:Nat)(w:World):(mw 288 #[(0,.agg #[v,v1,v2]),(1,.slice a b e),(2,.slice P N d),(3,.slice p n C)]).run aa w= .ok (.agg #[v,v1,v2,.slice a b e,.slice P N d,.slice p n C]) w:=qq
def yV{P:Program}{w:World}{E:Env}{row:Nat->Option Row}{v:Value}{r:Row}(h:Rel P w E row v (.own i))(H:row i=some r):∃p n c,v= .slice p n c:=by
 rcases h r H with⟨_,h⟩|⟨b,C,_,h⟩
 ·exact⟨_,_,_,h⟩
 ·exact⟨_,_,_,h⟩
def qB(E:List (List Int))(i v:Nat):List Int:=((aw i).filter λk=>(E.getD k []).contains (v:Int)).map λ(k:Nat)=>(k:Int)
def gZ(E:List (List Int))(i j v:Nat):List Int:=qB E i v++if((E.getD i []).take j).contains (v:Int)then [(i:Int)]else []
def incs(g:Gr):List (List Int):=(aw g.n).map (qB g.edges g.edges.length)
def GD(T:List Int)(x u:Int):(T++[x]).contains u=(T.contains u||decide (u=x)):=by
 rw [Bool.eq_iff_iff];simp
def RH(E:List (List Int))(i v:Nat):gZ E i 0 v=qB E i v:=by simp [gZ]
def RI(E:List (List Int))(i v:Nat):gZ E i (E.getD i []).length v=qB E (i+1) v:=by
 simp only [gZ,qB,rn,fz,eV,bl]
 congr 1
 by_cases h:(E.getD i []).contains (v:Int)=true
 ·simp only [h,a7,cI,i7,ap,ax]
 ·simp only [h,ba,cI,i7,ax,b6]
def RJ{E:List (List Int)}{j:Nat}(k:j<(E.getD i []).length)(d:(E.getD i []).Nodup)(p:0<=(E.getD i [])[j])(v:Nat):
  uO (λv=>(gZ E i j v).map I) (E.getD i [])[j].toNat ((gZ E i j (E.getD i [])[j].toNat).map I++[I i]) v=(gZ E i (j+1) v).map I:=by
 generalize g:E.getD i []=l at*
 have t:l.take (j+1)=l.take j++[l[j]]:=bh k;have a:((l[j].toNat:Nat):Int)=l[j]:=qk
 have H:l[j]∉l.take j:=by
  intro h;obtain⟨m,f,e⟩:=bN h;have b:m<j:=by simp at f;omega
  rw [li]at e;exact absurd ((List.getElem_inj d).1 e) qk
 simp only [uO,gZ,g,t,GD]
 split
 ·rename_i e
  subst e;have o:(l.take j).contains ((l[j].toNat:Nat):Int)=false:=by rw [a];simpa using H
  rw [o,a];simp
 ·rename_i e
  have n:decide ((v:Int)=l[j])=false:=by simp only [m5];exactλh=>e qk
  rw [n,gT]
def Wv(E:List (List Int))(i j v:Nat):(gZ E i j v).length<=i+1:=by
 have h:=gC (λk=>(E.getD k []).contains (v:Int)) (aw i);simp only [gO]at h;simp only [gZ,qB,bd,al]
 split<;>simp only [an,a9]<;>omega
structure RN(g:Gr):Prop where
 n:g.n<1000000
 m:g.edges.length<1000000
 e:∀i,i<g.edges.length->g.edges.getD i []≠[]/\(g.edges.getD i []).Nodup/\(g.edges.getD i []).length<1000000/\∀v∈g.edges.getD i [],0<=v/\v.toNat<g.n
def RN.nil(O:RN g)(e:g.n=0):g.edges=[]:=by
 rcases rg g.edges with h|⟨l,x,h⟩
 ·exact h
 ·exfalso
  have a:l.length<g.edges.length:=by rw [h];simp
  obtain⟨d,_,_,b⟩:=O.e l.length a
  cases H:g.edges.getD l.length []with
  |nil=>exact d H
  |cons v _=>have:=(b v (by rw [H];exact bk)).2;omega
def RN.gi(h:RN g):GI g (incs g):=by
 have f:∀v,v<g.n->(incs g).getD v []=qB g.edges g.edges.length v:=λv H=>by simp [incs,H]
 have n:(incs g).length=g.n:=by simp [incs]
 have m:∀v,v<g.n->∀e:Int,e∈(incs g).getD v []↔∃k:Nat,k<g.edges.length/\(v:Int)∈g.edges.getD k []/\e=k:=λv H e=>by
  rw [f v H];simp only [qB,aq,cG,cd,m1];constructor
  ·rintro⟨k,⟨d,b⟩,rfl⟩;exact⟨k,d,b,rfl⟩
  ·rintro⟨k,d,b,rfl⟩;exact⟨k,⟨d,b⟩,rfl⟩
 exact{
  len:=n
  rng:=λv H e a=>by
   obtain⟨k,d,_,rfl⟩:=(m v qk e).1 a;exact⟨qk,qk⟩
  mem:=λv H e a=>by
   obtain⟨k,d,b,rfl⟩:=(m v qk e).1 a;simpa using b
  all:=λe a v H=>by
   obtain⟨d,b⟩:=(h.e e a).2.2.2 v H;refine⟨d,b,(m v.toNat b e).2 ⟨e,a,?_,rfl⟩⟩;rw [show((v.toNat:Nat):Int)=v by omega];exact H
  nd:=λv H=>by
   rw [f v qk];exact eg.2 ((List.Pairwise.filter _ List.nodup_range).imp λh e=>h qk)
  ed:=λe a=>⟨(h.e e a).2.1,(h.e e a).2.2.1⟩}
def f311(t:Nat):Nat:=if t=20 then 20001 else if t=1011 then 20002 else if t=1015 then 20003 else t
def A6(t:Nat):Nat:=if t=20001 then 20 else if t=20002 then 1011 else if t=20003 then 1015 else t
def GE(g:Gr)(O:RN g):bJ aa 311 [] [] [.pd (pY g)] [] [] (tp g (incs g)):=by
 have hn:=O.n;have hE:=O.m;refine bJ.mk Tryz.func311 λw G rb=>?_;refine ac ?_;refine R.qU [1011,1015,1018] [none,none,none,some 1011,none,none,none,some 1015,none,none,some 1018] 60 mixed qv qv (λq hq=>by simp at hq;rcases hq with rfl|rfl|rfl<;>exact⟨rfl,rfl⟩) ?_;simp only [go_sem,jq,jl,SV.aY,dw,SV.hard,iq,an,a9,ck,eO,eZ];repeat refine⟨qk,?_⟩
 refine gU.make (n:=g.n) (k1:=.i64) (k2:=.i64) qr rfl rfl rfl rfl qn rfl rfl Zi A5 rfl rfl qk kb ?_;refine gy 60 _ _ ?_;simp only [go_sem,jq,jl,SV.aY,dw,SV.hard,iq,St.chain,an,a9,ck];repeat refine⟨qk,?_⟩
 refine gU.make (n:=g.edges.length) (k1:=.i64) (k2:=.i64) qr rfl rfl rfl rfl qn wx wx sl35 Wu rfl rfl qk kb ?_;refine gy 60 _ _ ?_;simp only [go_sem,jq,jl,SV.aY,dw,SV.hard,iq,St.chain,an,a9,ck];repeat refine⟨qk,?_⟩
 refine gU.make (n:=g.n) (k1:=.i64) (k2:=.i64) qr rfl rfl rfl rfl qn rfl rfl LP v3 rfl rfl qk kb ?_;refine gy 60 _ _ ?_;simp only [go_sem,jq,SV.aY,bn,St.chain];refine R.V6 (cs:=[.pd (I g.n),.pd (ints g.cost),.pd (lls g.edges),.own 1011,.own 1015,.own 1018]) rfl rfl rfl rfl rfl rfl qr rfl (λa w E m=>?_) ?_
 ·have h8:∃cs:Array Value,a.tmps.getD 8 undef= .agg cs/\cs.size=3/\∀j,j<3->Rd w E.G (cs.getD j undef) ([I g.n,ints g.cost,lls g.edges].getD j (.ak [])):=m.slots 8
  obtain⟨J,e8,X,o⟩:=h8;obtain⟨p1,n1,c1,D⟩:=yV (m.slots 11) rfl;obtain⟨p2,n2,c2,e2⟩:=yV (m.slots 15) rfl;obtain⟨p3,n3,c3,e3⟩:=yV (m.slots 18) rfl;have k1:=m.slots 11;have k2:=m.slots 15;have k3:=m.slots 18;rw [D]at k1;rw [e2]at k2;rw [e3]at k3
  obtain⟨M,L,K,rfl⟩:∃M L K,J= #[M,L,K]:=by
   have:J.toList.length=3:=uu X
   match A:J.toList,this with
   | [x,y,z],_=>exact⟨x,y,z,by rw [<-Array.toArray_toList (xs:=J),A]⟩
  refine⟨#[M,L,K,.slice p1 n1 c1,.slice p2 n2 c2,.slice p3 n3 c3],?_,rfl,λj u=>?_⟩
  ·simp only [cA,ap,ax,Act.eval,e8,D,e2,e3]
   exact LI ..
  ·match j,u with
   |0,_=>exact⟨(o 0 qu).oneCell,(o 0 qu).tV⟩
   |1,_=>exact⟨(o 1 qu).oneCell,(o 1 qu).tV⟩
   |2,_=>exact⟨(o 2 qu).oneCell,(o 2 qu).tV⟩
   |3,_=>exact⟨rfl,k1⟩
   |4,_=>exact⟨rfl,k2⟩
   |5,_=>exact⟨rfl,k3⟩
 simp only [go_sem];refine ac ?_;rcases gj g.n with h0|hpos
 ·have b:=O.nil h0
  obtain⟨n,C,edges⟩:=g;simp only at h0 b;subst h0 b;refine R.fU (λ(i:Nat) s=>St.lp [2,3,22,23] [(24,.pd (I i))] [1,20] [] [1011,1015,1018] [] s) (λ(i:Nat)=>i=0) (λ(i:Nat)=>i) (0) (rfl) ?_;rintro i rfl;refine ac ?_;refine⟨λh=>xy,λ_=>?_⟩;refine ac ?_;refine R.dI 1018 rfl rfl ?_;simp only [go_sem];refine R.Ij f311 A6 rfl (MI rfl) ?_;simp only [go_sem,f311];have hb:(some ⟨4,1,av ((⟨0,C,[]⟩:Gr)).n (B false)⟩:Option Row)=some (gI (av ((⟨0,C,[]⟩:Gr)).n false)):=by show _=some (Row.mk 4 1 ((av _ false).map B));rw [my]
  have hf:(some ⟨3,1,av ((⟨0,C,[]⟩:Gr)).edges.length (I 0)⟩:Option Row)=some (cO (av ((⟨0,C,[]⟩:Gr)).edges.length 0)):=jz
  have hc:some [.pd (I ((⟨0,C,[]⟩:Gr)).n),.pd (ints ((⟨0,C,[]⟩:Gr)).cost),.pd (lls ((⟨0,C,[]⟩:Gr)).edges),.own 20002,.own 20003,.pd (.list 1 (av 0 (.raw (.slice none 0 0))))]=some (gB ((⟨0,C,[]⟩:Gr)) (incs ((⟨0,C,[]⟩:Gr)))):=by
   simp [incs]
  refine R.rX [(20001,gB ((⟨0,C,[]⟩:Gr)) (incs ((⟨0,C,[]⟩:Gr))))] [(20002,gI (av ((⟨0,C,[]⟩:Gr)).n false)),(20003,cO (av ((⟨0,C,[]⟩:Gr)).edges.length 0))] [.aA 20001 0] ?_;intro _ _;exact⟨rfl,rfl,rfl,rfl⟩
 refine R.nest 1018 29018 100000 3 (r:=⟨35,1,av g.n (.raw (.slice none 0 0))⟩) rfl qz rfl (λj u=>by simp only [fh]at u;simp [u]) rfl rfl qu (λi hi=>⟨by simp only [St.row,lk];(repeat rw [ae qk]),rfl⟩) qu ?_;simp only [go_sem,St.nest,SV.nest,er,fh];refine R.og (λ(i:Nat) s=>{St.lp [2,3,22,23] [(24,.pd (I i))] [29018,1,20] [] [] [] s with rows:=(1011,⟨4,1,av g.n (B false)⟩)::(1015,⟨3,1,av g.edges.length (I 0)⟩)::tl 100000 g.n 3 λv=>(qB g.edges i v).map I}) (λ(i:Nat)=>i<=g.edges.length) (λ(i:Nat)=>g.edges.length-i) (0) qk q7 ?_;intro i hi;refine ac ?_;refine⟨λh=>?_,λh=>?_⟩
 ·have hlt:i<g.edges.length:=uu h
  obtain⟨_,Z,hlE,FX⟩:=O.e i hlt;have D:g.edges[i]=g.edges.getD i []:=yo;generalize A:g.edges.getD i []=l at*
  refine z8 hlt D ?_;rw [show(λv=>(qB g.edges i v).map I)=λv=>(gZ g.edges i 0 v).map I from funext λv=>by rw [RH]];refine R.og (λ(j:Nat) s=>{St.lp [2,3,4,22,23,24,29,30] [(31,.pd (I j))] [29018,1,20] [] [] [] s with rows:=(1011,⟨4,1,av g.n (B false)⟩)::(1015,⟨3,1,av g.edges.length (I 0)⟩)::tl 100000 g.n 3 λv=>(gZ g.edges i j v).map I}) (λ(j:Nat)=>j<=l.length) (λ(j:Nat)=>l.length-j) (0) qk q7 ?_;intro j u;refine ac ?_;refine⟨λh=>?_,λh=>?_⟩
  ·have H:j<l.length:=uu h
   refine qe H ?_;obtain⟨hx0,hxn⟩:=FX l[j] (am H)
   have U:∀v,uO (λv=>(gZ g.edges i j v).map I) l[j].toNat ((gZ g.edges i j l[j].toNat).map I++[I i]) v=(gZ g.edges i (j+1) v).map I:=by
    subst A;exact RJ H Z hx0
   generalize l[j]=x at*
   refine R.qU [100000+x.toNat] [none,none,none,none,none,none,none,none,none,none,none,some (100000+x.toNat),none,none,some (100000+x.toNat)] 60 mixed (show ug _ 15=true by decide+kernel) (Vw (100000+x.toNat) [false,false,false,false,false,false,false,false,false,false,false,true,false,false,true] qv) (λq hq=>x8) ?_;simp only [go_sem,jq,jl,SV.aY,dw,SV.hard,iq,an,a9,ck,eO,eZ,cY,dx];repeat refine⟨qk,?_⟩
   have d:(1011=100000+x.toNat)=False:=qz;have N:(1015=100000+x.toNat)=False:=qz;have Q:(1011==100000+x.toNat)=false:=qz;have P:(1015==100000+x.toNat)=false:=qz;have f:uO (λv=>(gZ g.edges i j v).map I) x.toNat ((gZ g.edges i j x.toNat).map I)=λv=>(gZ g.edges i j v).map I:=Rw _ _;refine gU.sN (r:=⟨3,1,(gZ g.edges i j x.toNat).map I⟩) qr rfl rfl rfl rfl qn rfl rfl (by rw [xZ];exact hxn) (MH hxn) ko Zf Zg ?_;refine gy 60 _ _ ?_;simp only [go_sem,jq,dw,iq,St.chain,d,N,Ov hxn,f];have T:tl 100000 g.n 3 (uO (λv=>(gZ g.edges i j v).map I) x.toNat ((gZ g.edges i j x.toNat).map I++[I i]))=tl 100000 g.n 3 λv=>(gZ g.edges i (j+1) v).map I:=MG λv _=>U v;have hil:=Wv g.edges i j x.toNat;refine gU.append (r:=⟨3,1,(gZ g.edges i j x.toNat).map I⟩) (es:=[I i]) qr rfl rfl rfl qn rfl ko rfl rfl sl35 rfl zq qr (congrArg (bB aR) Gz) rfl (λi hi=>vi) kq kj ?_;refine gy 60 _ _ ?_;simp only [go_sem,jq,SV.aY,bn,St.chain,cY,dx,d,N,Q,P,Ov hxn,T,Iw,Ox];apply ev8;simp only [go_sem,d,N,iP hxn,V7 hxn (.inr rfl),xZ,al,wrapN (k:=j) qk];repeat refine⟨qk,?_⟩
   refine R.fE (j+1) qk (l:=q7)
  have e:j=l.length:=by have:¬j<l.length:=by simpa using h
                        omega
  subst e;subst A;rw [show(λv=>(gZ g.edges i (g.edges.getD i []).length v).map I)=λv=>(qB g.edges (i+1) v).map I from funext λv=>by rw [RI]];apply ev8;simp only [go_sem,wrapN (k:=i) qk];refine R.fE (i+1) qk (l:=q7)
 have e:i=g.edges.length:=by have:¬i<g.edges.length:=by simpa using h
                             omega
 subst e;refine ac ?_;refine R.gJ 100000 [(1011,⟨4,1,av g.n (B false)⟩),(1015,⟨3,1,av g.edges.length (I 0)⟩)] rfl qr (λi hi=>⟨rfl,rfl⟩) ?_;simp only [go_sem,St.gJ,SV.gJ,Rx];refine R.fA 29018 (.ak (yD g.n λv=>(qB g.edges g.edges.length v).map I)) rfl (λr h=>by rcases h with⟨t,h⟩|⟨i,p,h,_⟩<;>cases h) rfl ?_;simp only [go_sem,St.fA,SV.fA,er,PD.width,PD.cells,Ru];refine R.Ij f311 A6 rfl (MI rfl) ?_;simp only [go_sem,f311];have hb:(some ⟨4,1,av (g).n (B false)⟩:Option Row)=some (gI (av (g).n false)):=by show _=some (Row.mk 4 1 ((av _ false).map B));rw [my]
 have hf:(some ⟨3,1,av (g).edges.length (I 0)⟩:Option Row)=some (cO (av (g).edges.length 0)):=jz
 have hc:some [.pd (I (g).n),.pd (ints (g).cost),.pd (lls (g).edges),.own 20002,.own 20003,.pd (.list 1 (yD g.n λv=>(qB g.edges g.edges.length v).map I))]=some (gB (g) (incs (g))):=by
  simp [incs,yD,cr,Function.comp_def]
 refine R.rX [(20001,gB (g) (incs (g)))] [(20002,gI (av (g).n false)),(20003,cO (av (g).edges.length 0))] [.aA 20001 0] ?_;intro _ _;exact⟨rfl,rfl,rfl,rfl⟩
end Go.Proofs.Z
