/- A part of the proof. -/
import Derived.Test.YtgeljjfmcmbejaaGreatDoorPSeq
set_option linter.all false
set_option linter.deprecated false
open Array renaming length_toList→cb,replicate→bw,toArray_toList→eM,getD→bc
open Go renaming wpList_plain→bA,run_underlying→bq
open Go.Builtin renaming append_→da,lenOf→fu,firstCells→gN,zeroCells→fe
open Go.Call renaming operands→di
open Go.Instr renaming loadAt→ea,sureAddr→ez,storeAt→ln
open Go.Op renaming operands→bR
open Go.Oper renaming wp→b5,upon_value→ci
open Go.Region renaming binds→d9,wanted→dv,ready→b4
open Go.Result renaming andThen_ok→a8
open Go.Sem renaming run_bind→az,run_pure→aD
open List renaming range→aw,getElem?_range→r8,length→aR,getElem?_cons_succ→k6
open Option renaming getD_some→bX,getD_none→fx,bind_some→jO
set_option maxRecDepth 100000
set_option maxHeartbeats 4000000
namespace Go.au
variable {x:Operand}{es ds rs:List PD}{sz i j id n:Nat}{G:Pub}{t e:TypeId}{r:Row}{P:Program}{v:SV}{args:List SV}{vc:Prop}{all:Array Oper}{o:Oper}{ρ:Operand->SV}{K:Act->World->Prop}{L:Array Bool}{a:Act}{s s':St}{C:Cx}{k:List KI}{ι:Type}
def qG(row:Nat->Option Row):SV->Option (List PD)
 | .pd (.list _ e)=>some e
 | .pd (.raw (.slice none 0 0))=>some []
 | .own j=>(row j).map (·.ds)
 |_=>none
section
variable {C:Cx}{s:St}{a:Act}{w w':World}{E:Env}{P:Program}{all:Array Oper}{l:List Oper}{k:List KI}{o:Oper}
def BO(g:aB C s a w E){u:Value}{x:SV}(h:qG s.row x=some es)(L:Rel C.P w E s.row u x)(P:∀i,i<es.length->(es.getD i (.ak [])).width=sz):
  ((∃p,u= .slice p 0 0)/\es=[])\/∃(b off c:Nat) (N:List Value),u= .slice (some ⟨b,off,none⟩) es.length c/\N.length=es.length*sz/\(∀j v,N[j]? =some v->w.cell? ((⟨b,off,none⟩:Addr).add j)=some v)/\(∀v∈N,v.oneCell'=true)/\
   ∀k j,k<es.length->j<sz->Rd w E.G (N.getD (k*sz+j) undef) ((es.getD k (.ak [])).cell j):=by
 have m:∀b off,(∀k j,k<es.length->j<sz->∃v,w.cell? ⟨b,off+(k*sz+j),none⟩=some v/\Rd w E.G v ((es.getD k (.ak [])).cell j))->
   ∃N:List Value,N.length=es.length*sz/\(∀j v,N[j]? =some v->w.cell? ((⟨b,off,none⟩:Addr).add j)=some v)/\(∀v∈N,v.oneCell'=true)/\∀k j,k<es.length->j<sz->Rd w E.G (N.getD (k*sz+j) undef) ((es.getD k (.ak [])).cell j):=by
  intro b off q
  have l:∀n,n<es.length*sz->∃v,w.cell? ⟨b,off+n,none⟩=some v/\Rd w E.G v ((es.getD (n/sz) (.ak [])).cell (n % sz)):=by
   intro n J;have z:0<sz:=by rcases gj sz with h|h;simp [h]at J;exact h
   have:=q (n/sz) (n % sz) (Nat.div_lt_of_lt_mul (by rw [iB];exact J)) (Nat.mod_lt _ z)
   rwa [iB,Nat.div_add_mod]at this
  refine⟨(aw (es.length*sz)).map λn=>(w.cell? ⟨b,off+n,none⟩).getD undef,qr,λj v D=>?_,λv D=>?_,λk j hk f=>?_⟩
  ·have f:j<es.length*sz:=by have:=(kv.1 D).1;simpa using this
   obtain⟨Q,H,_⟩:=l j f;simp only [cU,r8 f,Option.map_some,H,bX,bo]at D;subst D;rw [addr_add];exact H
  ·simp only [aq,cd]at D
   obtain⟨n,J,rfl⟩:=D;obtain⟨Q,H,t⟩:=l n J;rw [H];exact t.oneCell
  ·have M:k*sz+j<es.length*sz:=by
    have:k*sz+sz<=es.length*sz:=ye;omega
   obtain⟨v,H,t⟩:=q k j hk f
   have e:((aw (es.length*sz)).map λn=>(w.cell? ⟨b,off+n,none⟩).getD undef).getD (k*sz+j) undef=v:=by
    simp [ag,r8 M,H]
   rw [e];exact t
 cases x with
 |pd d=>cases d with
  |list K U=>
   simp only [qG,bo]at h;subst h;rcases Rd.jM L with⟨p,H,t⟩|⟨b,off,A,rfl,_,_,G,T⟩
   ·exact .inl ⟨⟨p,H⟩,t⟩
   ·refine .inr ⟨b,off,A,?_⟩
    obtain⟨N,H⟩:=m b off (λk j hk f=>by
     have z:K=sz:=by rw [<-P k hk,G k hk]
     subst z;obtain⟨_,v,q,o⟩:=T k hk j (by rw [G k hk];exact f);rw [et]at q;exact⟨v,q,o⟩)
    exact⟨N,rfl,H⟩
  |raw v=>
   have:=aH.aC L;subst this;unfold qG at h
   split at h<;>simp_all
  |ak _=>simp [qG]at h
  |clo _ _=>simp [qG]at h
  |mp _ _=>simp [qG]at h
  |ptr _=>simp [qG]at h
  |unk=>simp [qG]at h
 |own j=>
  simp only [qG]at h
  cases f:s.row j with
  |none=>simp [f]at h
  |some r=>
   simp [f]at h;subst h;rcases L r f with⟨H,rfl⟩|⟨b,A,H,rfl⟩
   ·exact .inl ⟨⟨none,rfl⟩,g.nX j r f H⟩
   ·refine .inr ⟨b,0,A,?_⟩
    obtain⟨N,t⟩:=m b 0 (λk X hk O=>by
     have z:r.sz=sz:=by rw [<-P k hk,g.oM f hk]
     subst z;obtain⟨v,q,o⟩:=g.Ak f H hk O;exact⟨v,uu q,o⟩)
    exact⟨N,rfl,t⟩
 |_=>simp [qG]at h
def yw{xs s:List Value}(x:xs.length=ds.length*sz)
  (f:∀k j,k<ds.length->j<sz->Rd w G (xs.getD (k*sz+j) undef) ((ds.getD k (.ak [])).cell j))(d:∀k j,k<es.length->j<sz->Rd w G (s.getD (k*sz+j) undef) ((es.getD k (.ak [])).cell j))(zs:List Value):
  s.length=es.length*sz->∀k j,k<(ds++es).length->j<sz->Rd w G ((xs++s++zs).getD (k*sz+j) undef) (((ds++es).getD k (.ak [])).cell j):=by
 intro g k j i b;simp only [ag,cD,bd]at*
 by_cases c:k<ds.length
 ·have h:k*sz+j<xs.length:=by
   have:k*sz+sz<=ds.length*sz:=by rw [<-eo];exact c9 _ c
   omega
  rw [cv h,cv c];exact f k j c b
 ·have a:k-ds.length<es.length:=qk
  have H:k*sz+j-xs.length=(k-ds.length)*sz+j:=by
   rw [x,Nat.sub_mul];have:ds.length*sz<=k*sz:=c9 _ qk;omega
  have e:xs.length<=k*sz+j:=by
   rw [x];have:ds.length*sz<=k*sz:=c9 _ qk;omega
  have h:(k-ds.length)*sz+j<s.length:=by
   have:(k-ds.length)*sz+sz<=es.length*sz:=by rw [<-eo];exact c9 _ a
   omega
  rw [dj e,H,cv h,dj qk];exact d _ j a b
def rY(ds es:List PD)(sz:Nat)(H:∀k,k<ds.length->(ds.getD k (.ak [])).width=sz)(h:∀k,k<es.length->(es.getD k (.ak [])).width=sz):∀k,k<(ds++es).length->((ds++es).getD k (.ak [])).width=sz:=by
 intro k a;simp only [ag,bd]at*
 by_cases c:k<ds.length
 ·rw [cv c];exact H k c
 ·rw [dj qk];exact h _ qk
def Ar(g:aB C s a w E)(o:Obj):Keeps w E.G (w.drew.alloc o) E.G:=
 Keeps.of_below g.gw ((zB w).trans (bF w.drew o)) (λ_ _ h=>h)
def R.append{y:Operand}{t':TypeId}(ho:o.op= .call ⟨.builtin .append,#[x,y],#[t,t']⟩)(hg:o.guard=none)(hd:bU s o)(hx:aO s x= .own i)(T:s.row i=some r)(hr0:C.fP i=none)
  (hy:qG s.row (aO s y)=some es)(he:eu C.P t=some e)(hre:r.e=e)(hz:aP C.P e=r.sz)(h0:r.sz≠0)(D:(bG C.P e).map aR=some r.sz)(ht:t'=t)
  (hw:∀i,i<es.length->(es.getD i (.ak [])).width=r.sz)(hb:(r.ds.length+es.length)*iQ C.P e<=140737488355328)(hm:r.ds.length+es.length<=maxLen)
  (next:R C (.ops all l::k) ((s.newRow i ⟨e,r.sz,r.ds++es⟩).put o.dst (.own i))):R C (.ops all (o::l)::k) s:=by
 intro a w E g;refine bA hg λK hK=>?_;subst ht;have hu:=aT g x;rw [hx]at hu;have hv:=aT g y;have eP:=iJ he
 obtain⟨q,Z⟩:∃q,C.P.info? e=some q:=by
  unfold aP at hz
  cases h:C.P.info? e with
  |none=>simp [h]at hz;omega
  |some q=>exact⟨q,rfl⟩
 have hsz:q.size=r.sz:=by unfold aP at hz;simpa [Z]using hz
 have hby:q.bytes=iQ C.P e:=by unfold iQ;simp [Z]
 obtain⟨z,hzv,hzl⟩:∃z,q.zero=some z/\z.cells.size=r.sz:=by
  unfold bG at D
  cases h:q.zero with
  |none=>simp [Z,h]at D
  |some z=>simp [Z,h]at D;exact⟨z,rfl,D⟩
 have hsmall:r.ds.length+es.length<=9223372036854775807:=by simp only [maxLen]at hm;omega
 have fin:∀(u':Value) (w':World) (A:Option (Nat×Nat)),(da #[t',t'] o.type #[a.eval x,a.eval y]).run C.P w= .ok u' w'->
   aB C (s.newRow i ⟨e,r.sz,r.ds++es⟩) a w' {E with rb:=λj=>if j=i then A else E.rb j}->
   ((A=none/\u'= .slice none 0 0)\/∃b d,A=some (b,d)/\u'= .slice (some ⟨b,0,none⟩) (r.ds++es).length d)->o.wp C.P a w K (fin C k):=by
  intro u' w' A H g' hpl;unfold b5 execOp;simp only [ho,resolve,invoke,builtin,az,aD,a8,cA,ap,ax,H,ci];refine hK _ _ (next _ _ _ (g'.eY (o:=o) hd ?_ qr));intro r' hr';rw [St.iY,af rfl]at hr';cases hr';simp only [a7];exact hpl
 have U:∀(p0:Option Addr) u0,a.eval y= .slice p0 0 0->es=[]->u0=a.eval x->(∃M n c,u0= .slice M n c/\n<=c/\(M=none->n=0))->(da #[t',t'] o.type #[a.eval x,a.eval y]).run C.P w= .ok u0 w:=by
  rintro p0 u0 hy0 _ hu0 ⟨M,n,c,rfl,O,hbn⟩;rw [<-hu0,hy0]
  cases M with
  |none=>cases p0<;>simp [da,bq eP,Go.sizeOf,typeInfo,Z,fu,O,gN,loadCells,loadCellsFrom]
  |some ad=>cases p0<;>simp [da,bq eP,Go.sizeOf,typeInfo,Z,fu,O,gN,loadCells,loadCellsFrom,storeCells]
 have u:es=[]->aB C (s.newRow i ⟨e,r.sz,r.ds++es⟩) a w {E with rb:=λj=>if j=i then E.rb i else E.rb j}:=by
  intro J;subst J;refine g.row (i:=i) (E.rb i) (Keeps.refl _ _) g.kept (a3 _) (λp hp=>g.bM i p hp) (λ_ _ _=>rfl) ?_ (λb d h=>.inr ⟨r,(b,d),T,h,rfl⟩);rcases g.rows i r T with⟨L,h2⟩|⟨b,d,f,L,m,h2⟩
  ·exact .inl ⟨L,j7⟩
  ·refine .inr ⟨b,d,f,L,by rw [<-hre];exact m,?_⟩
   simpa using h2
 have Au:∀(xs N:List Value) (d:Nat),xs.length=r.ds.length*r.sz->N.length=es.length*r.sz->
   (∀k j,k<r.ds.length->j<r.sz->Rd w E.G (xs.getD (k*r.sz+j) undef) ((r.ds.getD k (.ak [])).cell j))->(∀k j,k<es.length->j<r.sz->Rd w E.G (N.getD (k*r.sz+j) undef) ((es.getD k (.ak [])).cell j))->
   r.ds.length+es.length<=d->d<=maxLen->
   aB C (s.newRow i ⟨e,r.sz,r.ds++es⟩) a (w.drew.alloc (.cells (xs.toArray++N.toArray++fe z.cells (d-(r.ds.length+es.length))) e)) {E with rb:=λj=>if j=i then some (w.heap.size,d)else E.rb j}:=by
  intro xs N d hxs X hrx hrn hc1 hc2;have hk:=Ar g (.cells (xs.toArray++N.toArray++fe z.cells (d-(r.ds.length+es.length))) e);refine g.row (i:=i) (some (w.heap.size,d)) hk (g.kept.trans (.of_below ((zB w).trans (bF w.drew _)))) qr (λp hp=>jb) (λb hb _=>heap_alloc_old w.drew _ b hb) (.inr ⟨w.heap.size,d,_,rfl,⟨.inl g.kept.size,λo ho=>w8,heap_alloc_new w.drew _⟩,?_,?_,hc2,?_,?_⟩) (λb c h=>vl)
  ·simp only [io,dp,size_zeroCells,hzl,hxs,X,<-d7]
   congr 1;omega
  ·simpa using hc1
  ·exact rY r.ds es r.sz (λk hk=>g.oM T hk) hw
  ·intro k j hk' hj
   have e1:(xs.toArray++N.toArray++fe z.cells (d-(r.ds.length+es.length))).getD (k*r.sz+j) undef=(xs++N++(fe z.cells (d-(r.ds.length+es.length))).toList).getD (k*r.sz+j) undef:=by
    simp only [aL,ag,<-ff,Array.toList_append]
   show Rd _ _ ((xs.toArray++N.toArray++fe z.cells (d-(r.ds.length+es.length))).getD (k*r.sz+j) undef) _;rw [e1];exact(yw hxs hrx hrn _ X k j hk' hj).keep hk
 rcases BO g hy hv hw with⟨⟨p0,hy0⟩,J⟩|⟨b2,off,c,N,hy1,hnl,O,hn1,hnr⟩
 ·
  rcases hu r T with⟨L,h2⟩|⟨b,d,L,h2⟩
  ·exact fin _ w (E.rb i) (U p0 (.slice none 0 0) hy0 J h2.symm ⟨none,0,0,rfl,a3 _,λ_=>rfl⟩) (u J) (.inl ⟨L,rfl⟩)
  ·have hcap:r.ds.length<=d:=by
    rcases g.rows i r T with⟨h3,_⟩|⟨b',cap',f,h3,_,_,h4,_⟩
    ·rw [h3]at L;cases L
    ·rw [h3]at L;cases L;exact h4
   exact fin _ w (E.rb i) (U p0 _ hy0 J h2.symm ⟨some ⟨b,0,none⟩,r.ds.length,d,rfl,hcap,qr⟩) (u J) (.inr ⟨b,d,L,by simp [J]⟩)
 ·rcases hu r T with⟨L,h2⟩|⟨b,d,L,h2⟩
  ·have Q:=g.nX i r T L
   by_cases hm0:es.length=0
   ·have J:es=[]:=kk hm0
    refine fin (.slice none 0 0) w (E.rb i) ?_ (u J) (.inl ⟨L,rfl⟩);rw [h2,hy1,hm0];simp [da,bq eP,Go.sizeOf,typeInfo,Z,fu,gN,loadCells,loadCellsFrom]
   ·have H:=run_append_nil (P:=C.P) w t' o.type e q z eP Z hzv ⟨b2,off,none⟩ es.length c N wy O qk qk (by rw [hby];rw [Q]at hb;simp only [List.length_nil,cx]at hb;omega)
    rw [<-h2,<-hy1]at H;have hge:=grownCap_ge w es.length 0 e;have hle:=grownCap_le_maxLen w es.length 0 e qk;have g':=Au [] N (grownCap w es.length 0 e) (by simp [Q]) hnl (λk j hk _=>by simp [Q]at hk) hnr (by simp [Q];exact hge) hle;refine fin _ _ (some (w.heap.size,grownCap w es.length 0 e)) H ?_ (.inr ⟨_,_,rfl,by simp [Q]⟩);simpa [Q]using g'
  ·rcases g.rows i r T with⟨h3,_⟩|⟨b',cap',f,h3,m,hcs,hcl,hcm,_,hrd⟩
   ·rw [h3]at L;cases L
   ·rw [h3]at L;cases L
    rw [hre]at m
    have hxl:(f.toList.take (r.ds.length*r.sz)).length=r.ds.length*r.sz:=by
     have:r.ds.length*r.sz<=d*r.sz:=c9 _ hcl;simp;omega
    have hxr:∀k j,k<r.ds.length->j<r.sz->Rd w E.G ((f.toList.take (r.ds.length*r.sz)).getD (k*r.sz+j) undef) ((r.ds.getD k (.ak [])).cell j):=by
     intro k j hk hj
     have hlt:k*r.sz+j<r.ds.length*r.sz:=by
      have:k*r.sz+r.sz<=r.ds.length*r.sz:=ye;omega
     have:=hrd k j hk hj;rw [aL]at this;rw [ag,eD,af hlt,ff];exact this
    by_cases G:r.ds.length+es.length<=d
    ·have hfit:r.ds.length*q.size+N.length<=f.size:=by rw [hnl,hsz,hcs,<-d7];exact c9 _ G
     have H:=run_append_room (P:=C.P) w t' o.type e q eP Z b r.ds.length d f m.2.2 ⟨b2,off,none⟩ es.length c N wy O hn1 G hfit;rw [<-h2,<-hy1,hsz]at H;have hk:Keeps w E.G (w.setRow b (f.toList.take (r.ds.length*r.sz)++N++f.toList.drop (r.ds.length*r.sz+N.length)).toArray) E.G:=kD _ m.2.1;refine fin _ _ (some (b,d)) H ?_ (.inr ⟨b,d,rfl,qr⟩);refine g.row (i:=i) (some (b,d)) hk (tY g.kept _ m.1) (by simp [World.setRow]) (λp hp=>jb) (λb0 hb0 hne=>setRow_other w b b0 _ (hne r (b,d) T h3)) (.inr ⟨b,d,_,rfl,m.set,?_,uu G,hcm,?_,?_⟩) (λb0 c0 h=>by cases h;exact .inr ⟨r,(b,d),T,h3,rfl⟩)
     ·simp only [dp,bd,hxl,fa,cb,hnl,hcs]
      have:(r.ds.length+es.length)*r.sz<=d*r.sz:=c9 _ G;rw [d7]at this;omega
     ·exact rY r.ds es r.sz (λk hk=>g.oM T hk) hw
     ·intro k j hk' hj
      have e1:(f.toList.take (r.ds.length*r.sz)++N++f.toList.drop (r.ds.length*r.sz+N.length)).toArray.getD (k*r.sz+j) undef=(f.toList.take (r.ds.length*r.sz)++N++f.toList.drop (r.ds.length*r.sz+N.length)).getD (k*r.sz+j) undef:=by
       rw [aL,ag,gc]
      show Rd _ _ ((f.toList.take (r.ds.length*r.sz)++N++f.toList.drop (r.ds.length*r.sz+N.length)).toArray.getD (k*r.sz+j) undef) _;rw [e1];exact(yw hxl hxr hnr _ hnl k j hk' hj).keep hk
    ·have holds:∀j v,(f.toList.take (r.ds.length*r.sz))[j]? =some v->w.cell? ((⟨b,0,none⟩:Addr).add j)=some v:=by
      intro j v hv;rw [addr_add,cx,cell_of_row w b j f e _ m.2.2];rw [eD]at hv
      split at hv
      ·simpa using hv
      ·cases hv
     have H:=run_append_grow (P:=C.P) w t' o.type e q z eP Z hzv ⟨b,0,none⟩ r.ds.length d (f.toList.take (r.ds.length*r.sz)) (by rw [hsz];exact hxl) holds ⟨b2,off,none⟩ es.length c N wy O qk qk (growslice_fits qk (by rw [hby];exact hb));rw [<-h2,<-hy1]at H;have hge:=grownCap_ge w (r.ds.length+es.length) d e;have hle:=grownCap_le_maxLen w (r.ds.length+es.length) d e hm;exact fin _ _ (some (w.heap.size,grownCap w (r.ds.length+es.length) d e)) H (Au _ N _ hxl hnl hxr hnr hge hle) (.inr ⟨_,_,rfl,qr⟩)
end
def slotsOf(n:Nat):List SV->List (Nat×SV)
 | []=>[]
 |x::l=>(n,x)::slotsOf (n+1) l
def mW:∀(l:List SV) (n t:Nat),lk t (slotsOf n l)=if n<=t then l[t-n]? else none
 | [],n,t=>by simp [slotsOf,lk]
 |x::l,n,t=>by
  simp only [slotsOf,lk,mW l (n+1) t]
  by_cases h:n=t
  ·subst h;simp
  ·by_cases H:n<=t
   ·rw [ae h,af qk,af H]
    have:t-n=(t-(n+1))+1:=qk;rw [this,k6]
   ·rw [ae h,ae qk,ae H]
def St.start(n:Nat)(args:List SV):St:=⟨n,slotsOf 0 args,[],[],[],[]⟩
def iR.rel{w:World}{v:Value}{x:SV}{E:Env}(H:E.G=G){row:Nat->Option Row}(h:iR P w G v x):Rel P w E row v x/\∀cs,x≠.box cs:=by
 subst H
 cases x with
 |dead=>exact⟨trivial,qr⟩
 |pd d=>exact⟨h,qr⟩
 |ref d off=>exact⟨h,qr⟩
 |fn F=>exact⟨h,qr⟩
 |_=>exact h.elim
def Cx.fn(P:Program)(fn:Func)(w:World)(G:Pub)(rs:List PD):Cx:={P:=P,w0:=w,G0:=G,post:=bodyPost P fn (DI w G rs)}
def aG.mk{f:FuncId}{fn:Func}{c:Code}(d:P.funcs[f]? =some fn)
  (h:∀w G,R (Cx.fn P fn w G rs) [.code c] (St.start fn.ntmps args))(k:fn.body=some c:=by rfl)(j:aF P f:=by intro _ _;kernel_rfl)(u:args.length<=fn.ntmps:=by simp [go_sem]):aG P f args rs:=by
 refine⟨j,λw G vals H s v=>?_⟩;refine calls_of_wp d k ?_
 let E:Env:=⟨G,λ_=>0,λ_=>none,λ_=>0⟩
 have hget:∀t,(St.start fn.ntmps args).get t=args.getD t .dead:=by
  intro t;simp only [St.get,St.start,mW];simp [ag]
 have jk:∀t,iR P w G ((vals++bw (fn.ntmps-vals.size) undef).getD t undef) (args.getD t .dead):=by
  intro t
  by_cases ht:t<args.length
  ·have l:t<vals.size:=qk
   have:(vals++bw (fn.ntmps-vals.size) undef).getD t undef=vals.getD t undef:=by
    simp only [aL,eN l]
   rw [this];exact v t ht
  ·have:args.getD t .dead= .dead:=vm
   rw [this];trivial
 have n:∀t cs,(St.start fn.ntmps args).get t≠.box cs:=λt cs=>xi
 have g:aB (Cx.fn P fn w G rs) (St.start fn.ntmps args) {tmps:=vals++bw (fn.ntmps-vals.size) undef,defers:=[]} w E:={
  kept:=Kept.refl _ _ _
  aV:=λt=>by simp only [St.dR,St.start,lk,fx];trivial
  maps:=λr m h=>by simp [St.map,St.start,lk]at h
  aZ:=λt b h=>xa
  bM:=λi p h=>xa
  bI:=λi r p h=>vd
  defers:=rfl
  size:=jt
  g0:=λ_ _ h=>h
  g1:=λ_ _ h=>.inl h
  tab:=H.tab
  gw:=H.lt
  slots:=λt=>ky
  vars:=λt cs h=>ve
  rows:=λi r h=>vd
  boxes:=λt cs h=>(n t cs h).elim
  vv:=λt T cs C h=>ve
  rr:=λi q r o p h=>vd
  vr:=λt cs i r p h=>ve
  bb:=λt T cs C h=>(n t cs h).elim
  bv:=λt T cs C h=>(n t cs h).elim
  br:=λt cs i r p h=>(n t cs h).elim}
 have:=h w G _ w E g;simp only [fin]at this;exact wp_mono this (λe a w h=>h)
def Cx.DU(P:Program)(fn:Func)(w:World)(G:Pub)(rs:List PD):Cx:={P:=P,w0:=w,G0:=G,post:=bodyPost P fn (Ez w G rs),dr:=false}
def bg.mk{f:FuncId}{fn:Func}{c:Code}(d:P.funcs[f]? =some fn)
  (h:∀w G,R (Cx.DU P fn w G rs) [.code c] (St.start fn.ntmps args))(k:fn.body=some c:=by rfl)(j:aF P f:=by intro _ _;kernel_rfl)(u:args.length<=fn.ntmps:=by simp [go_sem]):bg P f args rs:=by
 refine⟨j,λw G vals H s v=>?_⟩;refine calls_of_wp d k ?_
 let E:Env:=⟨G,λ_=>0,λ_=>none,λ_=>0⟩
 have hget:∀t,(St.start fn.ntmps args).get t=args.getD t .dead:=by
  intro t;simp only [St.get,St.start,mW];simp [ag]
 have jk:∀t,iR P w G ((vals++bw (fn.ntmps-vals.size) undef).getD t undef) (args.getD t .dead):=by
  intro t
  by_cases ht:t<args.length
  ·have l:t<vals.size:=qk
   have:(vals++bw (fn.ntmps-vals.size) undef).getD t undef=vals.getD t undef:=by
    simp only [aL,eN l]
   rw [this];exact v t ht
  ·have:args.getD t .dead= .dead:=vm
   rw [this];trivial
 have n:∀t cs,(St.start fn.ntmps args).get t≠.box cs:=λt cs=>xi
 have g:aB (Cx.DU P fn w G rs) (St.start fn.ntmps args) {tmps:=vals++bw (fn.ntmps-vals.size) undef,defers:=[]} w E:={
  kept:=Kept.refl _ _ _
  aV:=λt=>by simp only [St.dR,St.start,lk,fx];trivial
  maps:=λr m h=>by simp [St.map,St.start,lk]at h
  aZ:=λt b h=>xa
  bM:=λi p h=>xa
  bI:=λi r p h=>vd
  defers:=rfl
  size:=jt
  g0:=λ_ _ h=>h
  g1:=λ_ _ h=>.inl h
  tab:=H.tab
  gw:=H.lt
  slots:=λt=>ky
  vars:=λt cs h=>ve
  rows:=λi r h=>vd
  boxes:=λt cs h=>(n t cs h).elim
  vv:=λt T cs C h=>ve
  rr:=λi q r o p h=>vd
  vr:=λt cs i r p h=>ve
  bb:=λt T cs C h=>(n t cs h).elim
  bv:=λt T cs C h=>(n t cs h).elim
  br:=λt cs i r p h=>(n t cs h).elim}
 have:=h w G _ w E g;simp only [fin]at this;exact wp_mono this (λe a w h=>h)
section
variable {C:Cx}{s:St}{a:Act}{w w':World}{E:Env}{P:Program}{k:List KI}
def resD(P:Program)(s:St):List ResultVar->Option (Prop×List PD)
 | []=>some (True,[])
 | .tmp t::l=>match s.get t,resD P s l with
  | .pd d,some (p,D)=>some (p,d::D)
  |_,_=>none
 | .cell t T::l=>match kM P s.var s.row T (s.get t),resD P s l with
  |some (v,.pd d),some (p,D)=>some (v/\p,d::D)
  |_,_=>none
def Ns{u U:Value}(h:(ea t u).run P w= .ok U w'):∃ad,u= .pointer (some ad)/\(loadVar t ad).run P w= .ok U w':=by
 cases u with
 |pointer p=>cases p with
  |none=>simp [ea,ez]at h
  |some ad=>exact⟨ad,rfl,by simpa [ea,ez]using h⟩
 |_=>simp [ea,ez]at h
def l9(T:Array Value):ResultVar->Sem Value
 | .tmp t=>pure (T.getD t undef)
 | .cell a t=>do loadVar t (<-asAddr (T.getD a undef))
def EK(fn:Func)(t:Array Value):results fn t=(do let vs<-fn.results.mapM (l9 t);pure (if h:vs.size=1 then vs[0]else .tuple vs)):=by
 unfold results
 congr 2
def rZ(g:aB C s a w E):∀{r:List ResultVar} {vc:Prop} {rs:List PD},resD C.P s r=some (vc,rs)->vc->
  ∃vs:List Value,(r.mapM (l9 a.tmps)).run C.P w= .ok vs w/\vs.length=rs.length/\∀j,j<rs.length->aH w E.G (vs.getD j undef) (rs.getD j (.ak []))
 | [],vc,rs,h,_=>by
  simp only [resD,bo,dz]at h;obtain⟨_,rfl⟩:=h;exact⟨[],rfl,rfl,λj hj=>vq⟩
 | .tmp t::l,vc,rs,h,A=>by
  simp only [resD]at h
  split at h
  ·rename_i d p D e b
   cases h
   obtain⟨vs,i,h2,f⟩:=rZ g b A;refine⟨a.tmps.getD t undef::vs,?_,j7,λj hj=>?_⟩
   ·simp only [l6,l9,az,aD,a8,i]
   ·cases j with
    |zero=>have:=g.slots t;rw [e]at this;exact this
    |succ j=>simpa using f j (uu hj)
  ·cases h
 | .cell t T::l,vc,rs,h,A=>by
  simp only [resD]at h
  split at h
  ·rename_i X d p D e b
   cases h
   obtain⟨vs,i,h2,f⟩:=rZ g b A.2;obtain⟨u,k,m⟩:=BL g e A.1 (g.slots t);obtain⟨o,n,H⟩:=Ns k;refine⟨u::vs,?_,j7,λj hj=>?_⟩
   ·simp only [l6,l9,az,n,asAddr,aD,a8,H,i]
   ·cases j with
    |zero=>exact m
    |succ j=>simpa using f j (uu hj)
  ·cases h
def X8{fn:Func}(g:aB (Cx.fn P fn w' G rs) s a w E)(h:resD P s fn.results.toList=some (vc,rs))(A:vc):
  a.defers=[]/\∃v,(results fn a.tmps).run P w= .ok v w/\DI w' G rs (.returned v) w:=by
 refine⟨g.defers,?_⟩;obtain⟨e,p,h2,i⟩:=rZ g h A;have k:Keeps w E.G w (G.new w'.heap.size):=.same λb o h=>g.g1 b o h
 have m:(fn.results.mapM (l9 a.tmps)).run P w= .ok e.toArray w:=by
  rw [<-eM (xs:=fn.results),mH,Sem.run_map];have H:=p;simp only [Cx.fn]at H;rw [H];rfl
 refine⟨if h:e.toArray.size=1 then e.toArray[0]else .tuple e.toArray,?_,_,rfl,?_,g.kept.below⟩
 ·rw [EK,az,m];rfl
 ·unfold oU
  split
  ·rename_i d
   have l:e.length=1:=uu h2;have:=i 0 qr;obtain⟨v,rfl⟩:=cz.1 l;simpa using(this.keep k)
  ·rename_i f
   have l:¬e.toArray.size=1:=by
    intro h;have:rs.length=1:=by simpa [<-h2]using h
    obtain⟨d,rfl⟩:=cz.1 this;exact f d rfl
   rw [ew l];refine⟨e.toArray,rfl,j7,λj n=>?_⟩;have:=(i j n).keep k;simpa [aL,ag]using this
def R.dS{fn:Func}{a:World}(h:resD P s fn.results.toList=some (vc,rs))(A:vc):R (Cx.fn P fn a G rs) (.code .ret::k) s:=
 R.ret λ_ _ _ g=>X8 g h A
def R.us{fn:Func}{a:World}(h:resD P s fn.results.toList=some (vc,rs))(A:vc):R (Cx.fn P fn a G rs) [] s:=
 R.over λ_ _ _ g=>X8 g h A
def UD{fn:Func}(g:aB (Cx.DU P fn w' G rs) s a w E)(h:resD P s fn.results.toList=some (vc,rs))(A:vc):
  a.defers=[]/\∃v,(results fn a.tmps).run P w= .ok v w/\Ez w' G rs (.returned v) w:=by
 refine⟨g.defers,?_⟩;obtain⟨e,p,h2,i⟩:=rZ g h A;have k:Keeps w E.G w (G.new w'.heap.size):=.same λb o h=>g.g1 b o h
 have m:(fn.results.mapM (l9 a.tmps)).run P w= .ok e.toArray w:=by
  rw [<-eM (xs:=fn.results),mH,Sem.run_map];have H:=p;simp only [Cx.DU]at H;rw [H];rfl
 refine⟨if h:e.toArray.size=1 then e.toArray[0]else .tuple e.toArray,?_,_,rfl,?_,g.kept.Ah⟩
 ·rw [EK,az,m];rfl
 ·unfold oU
  split
  ·rename_i d
   have l:e.length=1:=uu h2;have:=i 0 qr;obtain⟨v,rfl⟩:=cz.1 l;simpa using(this.keep k)
  ·rename_i f
   have l:¬e.toArray.size=1:=by
    intro h;have:rs.length=1:=by simpa [<-h2]using h
    obtain⟨d,rfl⟩:=cz.1 this;exact f d rfl
   rw [ew l];refine⟨e.toArray,rfl,j7,λj n=>?_⟩;have:=(i j n).keep k;simpa [aL,ag]using this
def R.oj{fn:Func}{a:World}(h:resD P s fn.results.toList=some (vc,rs))(A:vc):R (Cx.DU P fn a G rs) (.code .ret::k) s:=
 R.ret λ_ _ _ g=>UD g h A
def R.SP{fn:Func}{a:World}(h:resD P s fn.results.toList=some (vc,rs))(A:vc):R (Cx.DU P fn a G rs) [] s:=
 R.over λ_ _ _ g=>UD g h A
end
def DV(a:List Nat)(o:Oper):Nat:=o.after.toList.foldl (λm e=>if d9 .any e then m|||(2 ^ e.on|||a.getD e.on 0)else m) 0
def masks:List Oper->List Nat->List Nat
 | [],a=>a
 |o::l,a=>masks l (a++[DV a o])
def vY(i:Nat)(o:Oper):Bool:=o.after.toList.all λe=>!Region.binds .any e||decide (e.on<i)
def QH(a:List Nat)(j:Nat):∀(l:List Edge) (m:Nat),(l.foldl (λm e=>if d9 .any e then m|||(2 ^ e.on|||a.getD e.on 0)else m) m).testBit j=true->
  m.testBit j=true\/∃e∈l,d9 .any e=true/\(e.on=j\/(a.getD e.on 0).testBit j=true)
 | [],m,h=>.inl h
 |e::l,m,h=>by
  simp only [List.foldl_cons]at h;rcases QH a j l _ h with H|⟨E,b,H⟩
  ·split at H
   ·rename_i d
    simp only [nf,du]at H;rcases H with H|H|H
    ·exact .inl H
    ·refine .inr ⟨e,bk ..,d,.inl ?_⟩
     rw [ri]at H;simpa using H
    ·exact .inr ⟨e,bk ..,d,.inr H⟩
   ·exact .inl H
  ·exact .inr ⟨E,b3 _ b,H⟩
def TK(all:List Oper)(a:List Nat):Prop:=∀i o,i<a.length->all[i]? =some o->∀j,(a.getD i 0).testBit j=true->∃e∈o.after.toList,d9 .any e=true/\(e.on=j\/(a.getD e.on 0).testBit j=true)
def Nu(all:List Oper):∀(l:List Oper) (a:List Nat),(∀k,l[k]? =all[a.length+k]?)->a.length+l.length=all.length->TK all a->TK all (masks l a)/\(masks l a).length=all.length
 | [],a,_,n,h=>⟨h,by simpa [masks]using n⟩
 |o::l,a,r,n,h=>by
  have t:all[a.length]? =some o:=by have:=r 0;simpa using this.symm
  refine Nu all l (a++[DV a o]) (λk=>?_) (by simp at n⊢;omega) ?_
  ·have:=r (k+1)
   simp only [k6]at this;rw [this];congr 1;simp;omega
  ·intro i O s m j f
   have ext:∀x b,(a.getD x 0).testBit b=true->((a++[DV a o]).getD x 0).testBit b=true:=by
    intro x b g
    by_cases c:x<a.length
    ·rw [ag,cv c,<-ag];exact g
    ·rw [ag,dl qk]at g;simp at g
   by_cases c:i<a.length
   ·have E:(a++[DV a o]).getD i 0=a.getD i 0:=by rw [ag,cv c,<-ag]
    rw [E]at f;obtain⟨e,q,H,d⟩:=h i O c m j f;exact⟨e,q,H,d.imp _root_.id (ext _ _)⟩
   ·have p:i=a.length:=by simp at s;omega
    subst p;rw [t]at m;cases m;have E:(a++[DV a o]).getD a.length 0=DV a o:=by simp [ag]
    rw [E]at f;rcases QH a j _ 0 f with d|⟨e,q,H,d⟩
    ·simp at d
    ·exact⟨e,q,H,d.imp _root_.id (ext _ _)⟩
structure atH(all:Array Oper)(n:Nat):Prop where
 le:n<=all.size
 edge:∀i o,all[i]? =some o->∀e∈o.after,d9 .any e=true->e.on<i
 look:∀i o,i<n->all[i]? =some o->∀t∈o.looksAt all,∀j o',all[j]? =some o'->o'.dst=some t->((masks all.toList []).getD i 0).testBit j=true
 dist:∀i j o o' t,i<n->j<i->all[i]? =some o->all[j]? =some o'->o.dst=some t->o'.dst=some t->False
 tail:∀i o,n<=i->all[i]? =some o->∀j,j<i->((masks all.toList []).getD i 0).testBit j=true
 good:TK all.toList (masks all.toList [])
 len:(masks all.toList []).length=all.size
def mem_zipIdx'(h:all[i]? =some o):(o,i)∈all.toList.zipIdx:=by
 rw [p5];simpa using h
def isB(v:SV)(c:Bool):Prop:=v= .pd (.raw (.bool c))\/v= .gd true (.pd (.raw (.bool c)))
def YG(d:Bool)(P:Program)(all:Array Oper)(s:St)(o:Oper)(v:SV):Prop:=
 (o.guard=none/\Y d P s.var s.row (aO s) o v)\/
 (∃j a t c b,o.guard=some (j,a)/\(all[j]?).bind (·.dst)=some t/\isB (s.get t) c/\v= .gd (c==a) b/\
  ((c==a)=true->qF (c==a) (o.op.operands.toList.map (aO s))/\Y d P s.var s.row (yI s) o b))\/
 ∃j a t,o.guard=some (j,a)/\(all[j]?).bind (·.dst)=some t/\((isB (s.get t) a/\Y d P s.var s.row (aO s) o v)\/((isB (s.get t) (!a)\/s.get t= .tpl [])/\v= .tpl []))
def RY(C:Cx)(all:Array Oper)(t:List Oper)(k:List KI):List Oper->St->Prop
 | [],s=>R C (.ops all t::k) s
 |o::l,s=>∃v,YG C.dr C.P all s o v/\bU s o/\RY C all t k l (s.put o.dst v)
section
variable {C:Cx}{s s':St}{a:Act}{w w':World}{E:Env}{P:Program}{all:Array Oper}{k:List KI}{o:Oper}
def G9{ρ a:Operand->SV}:∀(l:List (Nat×Operand)),(∀p∈l,ρ p.2=a p.2)->vU ρ l=vU a l
 | [],_=>rfl
 |(i,x)::l,h=>by
  have b:ρ x=a x:=h (i,x) (bk ..);simp only [vU,b,G9 l (λp H=>h p (b3 _ H))]
def Hd{var:Nat->Option (List SV)}{row:Nat->Option Row}{d:Operand->SV}(op:Op)(h:∀x∈op.operands,ρ x=d x):ay P ρ var row op=ay P d var row op:=by
 cases op with
 |build t s=>simp only [ay,G9 s.toList (λp n=>h p.2 (by simp only [bR,nl,aq];exact⟨p,n,rfl⟩))]
 |makeFunc fn first C=>
  have:C.toList.map ρ=C.toList.map d:=c8 λx hx=>h x (by simp [bR];right;simpa using hx)
  cases fn<;>simp only [ay,this]
 |slice t x l e m=>
  have hx:ρ x=d x:=h x xd;have H:l.map ρ=l.map d:=by cases l with|none=>rfl|some y=>simp [h y xd]
  have g:e.map ρ=e.map d:=by cases e with|none=>rfl|some y=>simp [h y xd]
  cases m<;>simp only [ay,hx,H,g]
 |call c=>
  obtain⟨f,X,o⟩:=c;simp only [ay,DR]
  split
  ·split
   ·split
    ·rename_i x t hx q
     have:x∈X:=by rw [<-ka,hx];exact bk ..
     rw [h x (by simp [bR,di,this])]
    ·rfl
   ·split
    ·rename_i x y hx
     have k:x∈X:=uk;have j:y∈X:=uk;rw [h x (by simp [bR,di,k]),h y (by simp [bR,di,j])]
    ·rfl
   ·split
    ·rename_i x y hx
     have k:x∈X:=uk;have j:y∈X:=uk;rw [h x (by simp [bR,di,k]),h y (by simp [bR,di,j])]
    ·rfl
   ·rfl
  ·rfl
 |move x=>simp only [ay,h x xd]
 |assign x=>simp only [ay,h x xd]
 |pick c x y=>simp only [ay,h c xd,h x xd,h y xd]
 |load t x=>simp only [ay,h x xd]
 |nilCheck x=>simp only [ay,h x xd]
 |binOp op t x y T=>simp only [ay,h x xd,h y xd]
 |unOp op t x=>simp only [ay,h x xd]
 |convert a b x=>simp only [ay,h x xd]
 |makeInterface t x=>simp only [ay,h x xd]
 |fieldAddr t x f=>simp only [ay,h x xd]
 |field t x f=>simp only [ay,h x xd]
 |indexAddr t x i=>simp only [ay,h x xd,h i xd]
 |index t x i=>simp only [ay,h x xd,h i xd]
 |extract x i=>simp only [ay,h x xd]
 |_=>rfl
def Y.congr{C:Bool}{var:Nat->Option (List SV)}{row:Nat->Option Row}{b:Operand->SV}(h:∀x∈o.op.operands,ρ x=b x)(y:Y C P var row ρ o v):Y C P var row b o v:=by
 cases y with
 |op E v q aS=>exact .op E v (by rw [<-Hd o.op h];exact q) aS
 |call f X T a g l ho hc i H=>
  have e:X.toList.map ρ=X.toList.map b:=c8 λx hx=>h x kz;exact .call f X T a g l ho yn i H
 |o7 f X T a g l m ho hc i H=>
  have e:X.toList.map ρ=X.toList.map b:=c8 λx hx=>h x kz;exact .o7 f X T a g l m ho yn i H
 |kN t X T F D r ho ht A U=>
  have e:X.toList.map ρ=X.toList.map b:=c8 λx hx=>h x kz;exact .kN t X T F D r ho j9 (by rw [<-e];exact A) U
 |iE t f X T a g l ho ht hc i H=>
  have e:X.toList.map ρ=X.toList.map b:=c8 λx hx=>h x kz;exact .iE t f X T a g l ho j9 yn i H
 |uK t f X T a g l m ho ht hc i H=>
  have e:X.toList.map ρ=X.toList.map b:=c8 λx hx=>h x kz;exact .uK t f X T a g l m ho j9 yn i H
 |nY t f D X T a g l ho ht hc i H=>
  have e:X.toList.map ρ=X.toList.map b:=c8 λx hx=>h x kz;exact .nY t f D X T a g l ho j9 yn i H
 |look t x k ok L D key K e G d ho hx O ht fd q=>
  exact .look t x k ok L D key K e G d ho (by rw [<-h _ (by simp [ho,bR])];exact hx) (by rw [<-h _ (by simp [ho,bR])];exact O) ht fd q
 |slice t e n J s D ho Q z h0 N u A M j=>
  have e1:(s.toList.map λp=>ρ p.2)=s.toList.map λp=>b p.2:=c8 λp u=>h p.2 (by simp only [ho,bR,nl,aq];exact⟨p,u,rfl⟩);exact .slice t e n J s D ho Q z h0 N u (by rw [<-e1];exact A) M j
 |alloc t Z ho z q=>exact .alloc t Z ho z q
def QI(h:∀t,x= .tmp t->s'.get t=s.get t):aO s' x=aO s x:=by
 cases x with
 |tmp t=>simp only [aO,h t rfl]
 |_=>rfl
def uX{t:Nat}(h:.tmp t∈o.op.operands):t∈o.looksAt all:=
 eR _ (mB.2 ⟨.tmp t,uu h,rfl⟩)
def YG.congr{D:Bool}(l:∀t∈o.looksAt all,s'.get t=s.get t)(n:s'.vars=s.vars)(r:s'.rows=s.rows)(y:YG D P all s o v):YG D P all s' o v:=by
 have E:∀x∈o.op.operands,aO s x=aO s' x:=λx e=>(QI λt f=>l t (uX (by rw [<-f];exact e))).symm;have h:s'.var=s.var:=by funext t;simp [St.var,n]
 have H:s'.row=s.row:=by funext t;simp [St.row,r]
 rcases y with⟨d,b⟩|⟨j,a,t,c,m,d,b,k,g,i⟩|⟨j,a,t,d,b,k⟩
 ·exact .inl ⟨d,by rw [h,H];exact b.congr E⟩
 ·have f:t∈o.looksAt all:=by
   refine g9 _ ?_;simp only [d,b];simp
  refine .inr (.inl ⟨j,a,t,c,m,d,b,by rw [l t f];exact k,g,λp=>?_⟩);obtain⟨u,q⟩:=i p;have z:o.op.operands.toList.map (aO s)=o.op.operands.toList.map (aO s'):=c8 λx e=>E x (uu e);exact⟨by rw [<-z];exact u,by rw [h,H];exact q.congr λx e=>by simp only [yI,E x e]⟩
 ·have f:t∈o.looksAt all:=by
   refine g9 _ ?_;simp only [d,b];simp
  refine .inr (.inr ⟨j,a,t,d,b,?_⟩);rw [l t f];rcases k with⟨g,i⟩|g
  ·exact .inl ⟨g,by rw [h,H];exact i.congr E⟩
  ·exact .inr g
def EL(g:aB C s a w E){t:Nat}{b c:Bool}(k:o.guard=some (j,b))(i:(all[j]?).bind (·.dst)=some t)(d:isB (s.get t) c):dv o (yielded all a.tmps)=(c==b):=by
 have e:a.tmps.getD t undef= .bool c:=by
  rcases d with d|d
  ·exact g.bool d
  ·have:=g.slots t
   rw [d]at this;have this:Rel C.P w E s.row (a.tmps.getD t undef) (.pd (.raw (.bool c))):=this rfl;exact aH.aC this
 have H:t<a.tmps.size:=by
  rcases cn t a.tmps.size with h|h
  ·exact h
  ·simp [bc,gv.2 h,undef]at e
 have f:a.tmps[t]? =some (.bool c):=by
  simp [bc,H]at e;simp [H,e]
 simp only [dv,k,yielded,i,jO,f]
 cases c<;>cases b<;>rfl
def Xn(g:aB C s a w E){t:Nat}{b:Bool}(e:o.guard=some (j,b))(d:(all[j]?).bind (·.dst)=some t)(f:s.get t= .tpl []):dv o (yielded all a.tmps)=false:=by
 have h:=g.slots t;rw [f]at h;obtain⟨v,H,_⟩:=h;simp only [dv,e,yielded,d,jO]
 have:a.tmps[t]? =none\/a.tmps[t]? =some (.tuple v):=by
  cases h:a.tmps[t]? with
  |none=>exact .inl rfl
  |some u=>rw [aL,h]at H;simp only [bX]at H;exact .inr (by rw [H])
 rcases this with h|h<;>rw [h]<;>rfl
def YG.step(g:aB C s a w E)(q:all[i]? =some o)(k:bU s o)(y:YG C.dr C.P all s o v){Q:Exit->Act->World->Prop}
  (l:∀u w' E',aB C (s.put o.dst v) (a.put o.dst u) w' E'->K (a.put o.dst u) w'):wpOp C.P all Q i K a w:=by
 unfold wpOp;simp only [q];rcases y with⟨e,d⟩|⟨j,b,t,c,p,e,d,n,rfl,m⟩|⟨j,b,t,e,d,n⟩
 ·rw [af (by simp [dv,e])]
  exact .inl (Y.ok g (λx _=>aT g x) k d l)
 ·rw [EL g e d n]
  split
  ·rename_i f
   obtain⟨z,r⟩:=m f;exact .inl (Y.ok g (s8 g f z) k r λu w' E' G=>l u w' E' (G.weak (St.s9 s o.dst p _ (.gd _ _))))
  ·rename_i f
   exact l _ _ _ (g.eY k (λh=>(f h).elim) qr)
 ·rcases n with⟨H,m⟩|⟨H,rfl⟩
  ·rw [EL g e d H,af qr]
   exact .inl (Y.ok g (λx _=>aT g x) k m l)
  ·have f:dv o (yielded all a.tmps)=false:=by
    rcases H with H|H
    ·rw [EL g e d H];cases b<;>rfl
    ·exact Xn g e d H
   rw [f,ae qr];exact l undef _ _ (g.eY k (v:=.tpl []) ⟨#[],rfl,rfl,λj hj=>vq⟩ qr)
def pre(s:St):List (Oper×SV)->St
 | []=>s
 |(o,v)::l=>pre (s.put o.dst v) l
def get_put(s:St)(dst:Option Nat)(v:SV)(t:Nat):(s.put dst v).get t=if dst=some t then v else s.get t:=by
 cases dst with
 |none=>simp [St.put]
 |some d=>simp only [St.put,St.fO,bo,eq_comm]
structure At(all:Array Oper)(n:Nat)(vs:List SV)(s s':St)(L:Array Bool):Prop where
 size:L.size=all.size
 closed:∀i o,L.getD i false=true->all[i]? =some o->∀e∈o.after,d9 .any e=true->L.getD e.on false=true
 tail:∀i,n<=i->L.getD i false=false
 sn:s'.n=s.n
 sv:s'.vars=s.vars
 sr:s'.rows=s.rows
 sm:s'.maps=s.maps
 sg:s'.gs=s.gs
 done:∀i o t,i<n->L.getD i false=true->all[i]? =some o->o.dst=some t->s'.get t=vs.getD i .dead
 rest:∀t,(∀i o,i<n->L.getD i false=true->all[i]? =some o->o.dst≠some t)->s'.get t=s.get t
def iT(h:i<L.size):L.getD i true=L.getD i false:=by simp [bc,h]
def uq(h:i<L.size)(d:Bool):(L.setIfInBounds i true).getD i d=true:=by simp [bc,h]
def cnt(L:Array Bool):Nat:=L.toList.countP (λb=>!b)
def X9(h:i<L.size)(f:L.getD i false=false):cnt (L.setIfInBounds i true)+1=cnt L:=by
 unfold cnt;have H:i<L.toList.length:=uu h;have v:L.toList[i]=false:=by simpa [bc,h]using f
 have E:L.toList=L.toList.take i++L.toList[i]::L.toList.drop (i+1):=by
  rw [<-ij H,cK]
 have e:(L.setIfInBounds i true).toList=L.toList.take i++true::L.toList.drop (i+1):=by
  rw [pM,AN,af H]
 rw [e]
 conv=>rhs;rw [E]
 simp [kB,v];omega
def UE(h:cnt L=0):∀i,i<L.size->L.getD i false=true:=by
 intro i H;unfold cnt at h;rw [rj]at h;have:=h L.toList[i] (am (uu H));simpa [bc,H]using this
end
section
variable {C:Cx}{s:St}{all:Array Oper}{k:List KI}{P:Program}{Q:Exit->Act->World->Prop}
def QJ(E:(all.toList.zipIdx).all (λp=>vY p.2 p.1)=true)(s:L.size=all.size)(h:b4 .any all L=[]):L=bw all.size true:=by
 have H:∀i,i<L.size->L.getD i false=true:=by
  intro i
  induction i using Nat.strongRecOn with
  |_ i g=>
   intro j
   cases l:L.getD i false with
   |true=>rfl
   |false=>
    have a:i<all.size:=qk;have o:all[i]? =some all[i]:=by simp [a]
    have d:=(aM.1 E) (all[i],i) (mem_zipIdx' o)
    have:i∈b4 .any all L:=mem_ready.2 ⟨by rw [iT j];exact l,all[i],o,λe k b=>by
     have n:=(aM.1 d) e (uu k);have m:e.on<i:=by simpa [b]using n
     exact g e.on m qk⟩
    rw [h]at this;cases this
 apply d6
 ·simp [s]
 ·intro i f q
  have:=H i f;simp only [Array.getElem_replicate];simpa [bc,f]using this
def KD{w:World}(hm:P.follows .mixedOrders=true)(E:(all.toList.zipIdx).all (λp=>vY p.2 p.1)=true)(J:Array Bool->Act->World->Prop)
  (t:J (bw all.size false) a {w with drawn:=w.drawn+1})
  (step:∀(L:Array Bool) (a:Act) (w:World) (i:Nat) (o:Oper),L.size=all.size->all[i]? =some o->L.getD i false=false->(∀e∈o.after,d9 .any e=true->L.getD e.on false=true)->J L a w->wpOp P all Q i (J (L.setIfInBounds i true)) a w)
  (done:∀a w,J (bw all.size true) a w->Q .normal a w):(Code.region id all true).wp P Q a w:=by
 refine wp_region_any hm ?_
 have key:∀(f:Nat) (L:Array Bool) (a:Act) (w:World),L.size=all.size->cnt L<=f->J L a w->wpAny P .any all Q f L a w:=by
  intro f
  induction f with
  |zero=>
   intro L a w s k g;have b:=UE (Nat.le_zero.1 k)
   have r:b4 .any all L=[]:=by
    cases h:b4 .any all L with
    |nil=>rfl
    |cons i l=>
     have j:i∈b4 .any all L:=by rw [h];exact bk ..
     obtain⟨n,o,d,_⟩:=mem_ready.1 j;have H:=(bm.1 d).1;rw [iT (by rw [s];exact H),b i (by rw [s];exact H)]at n;cases n
   refine⟨r,done a w ?_⟩;rw [<-QJ E s r];exact g
  |succ f q=>
   intro L a w s k g;refine⟨λr=>done a w (by rw [<-QJ E s r];exact g),λi j=>?_⟩;obtain⟨n,o,d,b⟩:=mem_ready.1 j;have H:=(bm.1 d).1;have x:L.getD i false=false:=by rw [<-iT (by rw [s];exact H)];exact n
   refine wpOp_mono (λA m u=>q _ A m (uu s) (by have:=X9 (L:=L) (i:=i) (by rw [s];exact H) x;omega) u) (step L a w i o s d x b g)
 refine key all.size _ a _ qr ?_ t;unfold cnt;exact bz iv qr
def Oper.EM{w:World}{f:Act->World->Prop}{d:Exit->Act->World->Prop}(h:∀a w,K a w->f a w)(q:∀e a w,e≠.normal->Q e a w->d e a w)
  (H:o.wp P a w K Q):o.wp P a w f d:=by
 have t:LetsOut Q->LetsOut d:=λ⟨a,w,j⟩=>⟨a,w,q _ a w qr j⟩
 unfold b5 at*
 generalize(execOp a.eval o).run P w=r at*
 cases r with
 |ok n i=>
  cases n<;>simp only [Oper.upon]at H⊢ <;>
   first
    |exact h _ _ H
    |exact Calls.mono H (λe g b=>by cases e<;>first|exact h _ _ b|exact q _ _ _ qr b|exact t b)
    |exact Rows.mono H (λ_ _ b=>h _ _ b)
 |halt x i=>cases x<;>simp only [Oper.upon]at H⊢ <;>first|exact H|exact q _ _ _ qr H
def R.ol{t:St}{J:St->Prop}(l:all[i]? =some o)(h:R C (.ops all [o] :: .aU J::k) t){w:World}{E:Env}(g:aB C t a w E):
  wpOp C.P all (fin C k) i (λa w=>∃s E,J s/\aB C s a w E) a w:=by
 have H:=h a w E g;simp only [fin,wpList]at H;unfold wpOp;simp only [l]
 have q:∀e a w,e≠.normal->fin C (.aU J::k) e a w->fin C k e a w:=by
  intro e a w d f
  cases e with
  |normal=>exact(d rfl).elim
  |exit _=>exact f
  |goto _=>exact f
  |ret=>exact f
  |panic _=>exact f
  |outgrown=>exact f
 split
 ·rename_i b
  rw [af b]at H;rcases H with H|⟨H,A,j,m⟩
  ·exact .inl (Oper.EM (λ_ _ h=>h) q H)
  ·exact .inr ⟨H,A,j,q _ _ _ qr m⟩
 ·rename_i b
  rw [ae b]at H;exact H
def R.uv(hm:C.P.follows .mixedOrders=true)(j:(all.toList.zipIdx).all (λp=>vY p.2 p.1)=true)(J:Array Bool->St->Prop)
  (l:J (bw all.size false) s)
  (step:∀(L:Array Bool) (t:St) (i:Nat) (o:Oper),L.size=all.size->all[i]? =some o->L.getD i false=false->(∀e∈o.after,d9 .any e=true->L.getD e.on false=true)->J L t->R C (.ops all [o] :: .aU (J (L.setIfInBounds i true))::k) t)
  (done:∀t,J (bw all.size true) t->R C k t):R C (.code (.region id all true)::k) s:=by
 intro a w E g;refine KD hm j (λL a w=>∃t E,J L t/\aB C t a w E) ⟨s,E,l,g.drew⟩ ?_ ?_
 ·rintro L a w i o f d H h ⟨t,E,b,g⟩
  exact R.ol d (step L t i o f d H h b) g
 ·rintro a w ⟨t,E,b,g⟩
  exact done t b a w E g
end
section
variable {C:Cx}{s:St}{a:Act}{w:World}{E:Env}{k:List KI}
def aB.Aw(g:aB C s a w E){t:Nat}(ht:t<s.n)(h:Rel C.P w E s.row (a.tmps.getD t undef) v)(d:∀cs,v≠.box cs):aB C (s.set t v) a w E:=by
 have G:=g.put ht h d
 have e:a.put (some t) (a.tmps.getD t undef)=a:=by
  have H:t<a.tmps.size:=yl;obtain⟨T,D⟩:=a;simp only [Act.put]
  congr 1
  apply d6
  ·simp
  ·intro i j f
   by_cases b:t=i
   ·subst b;simp [bc,H]
   ·rw [Be (h:=b)]
 rw [e]at G;exact G
def R.SR(t:Nat)(n:t<s.n)(j:s.get t= .own i)(d:s.row i=some r)(h:∀p cap,R C k (s.set t (.pd (.raw (.slice p r.ds.length cap))))):R C k s:=by
 intro a w E g;have f:=g.slots t;rw [j]at f;rcases f r d with⟨e,v⟩|⟨b,cap,e,v⟩
 ·have H:r.ds=[]:=g.nX i r d e
  refine h none 0 a w E (g.Aw n ?_ qr);rw [v,H];exact Rd.raw _ rfl
 ·refine h (some ⟨b,0,none⟩) cap a w E (g.Aw n ?_ qr)
  rw [v];exact Rd.raw _ rfl
end
section
variable {C:Cx}{s:St}{a:Act}{w w':World}{E:Env}{P:Program}{all:Array Oper}{l:List Oper}{k:List KI}{o:Oper}
def Rel.rowLen{row a:Nat->Option Row}(h:∀i r',a i=some r'->∃r,row i=some r/\r.sz=r'.sz/\r.ds.length=r'.ds.length){v:Value}{x:SV}(H:Rel P w E row v x):Rel P w E a v x:=by
 induction x generalizing v with
 |own id=>
  intro r' d;obtain⟨r,b,g,f⟩:=h id r' d;rw [<-f];exact H r b
 |dP id i off=>
  intro r' d;obtain⟨r,b,g,f⟩:=h id r' d;rw [<-g];exact H r b
 |view id k=>
  intro r' d;obtain⟨r,b,g,f⟩:=h id r' d;rw [<-g,<-f];exact H r b
 |gd c x j=>exactλl=>j (H l)
 |gV t x j=>obtain⟨u,e,H⟩:=H;exact⟨u,e,j H⟩
 |_=>exact H
def aB.He(g:aB C s a w E)(L:s.row i=some r){b cap:Nat}(P:E.rb i=some (b,cap))(ds:List PD)(d:Array Value)(hl:ds.length=r.ds.length)(hs:d.size=cap*r.sz)
  (hw:∀k,k<ds.length->(ds.getD k (.ak [])).width=r.sz)(T:∀k j,k<ds.length->j<r.sz->Rd w E.G (d.getD (k*r.sz+j) undef) ((ds.getD k (.ak [])).cell j)):
  aB C (s.setRow i {r with ds:=ds}) a (w.setRow b d) E:=by
 rcases g.rows i r L with⟨G,_⟩|⟨b',cap',cur,G,m,h2,h3,h4,h5,h6⟩
 ·rw [G]at P;cases P
 rw [G]at P;cases P;have O:Keeps w E.G (w.setRow b d) E.G:=kD d m.2.1
 have z:∀j f,(s.setRow i {r with ds:=ds}).row j=some f->(j=i/\f={r with ds:=ds})\/(j≠i/\s.row j=some f):=by
  intro j f h;simp only [St.row,St.setRow,jR]at h
  split at h
  ·cases h;exact .inl ⟨kf,rfl⟩
  ·exact .inr ⟨kf,h⟩
 have H:∀j f,(s.setRow i {r with ds:=ds}).row j=some f->∃l,s.row j=some l/\l.sz=f.sz/\l.ds.length=f.ds.length:=by
  intro j f h;rcases z j f h with⟨rfl,rfl⟩|⟨_,h⟩
  ·exact⟨r,L,rfl,hl.symm⟩
  ·exact⟨f,h,rfl,rfl⟩
 have o:∀v x,Rel C.P w E s.row v x->Rel C.P (w.setRow b d) E (s.setRow i {r with ds:=ds}).row v x:=λv x h=>(h.keep (E':=E) O rfl rfl).rowLen H
 exact{
  kept:=tY g.kept d m.1
  maps:=λr mm h=>(g.maps r mm h).setRow m.2.2 m.2.1
  aZ:=g.aZ
  bM:=g.bM
  bI:=λj f p h hp h0=>by obtain⟨l,h,_⟩:=H j f h;exact g.bI j l p h hp h0
  defers:=g.defers
  size:=g.size
  g0:=g.g0
  g1:=g.g1
  tab:=g.tab.keep O
  gw:=λb' n h=>by simpa [World.setRow]using g.gw b' n h
  slots:=λt=>o _ _ (g.slots t)
  aV:=λt=>o _ _ (g.aV t)
  vars:=λt u h=>by
   obtain⟨X,e,M,Q,K⟩:=g.vars t u h;exact⟨X,e,M.other (g.vr t u i r (b,cap) h L G),Q,λj J=>⟨(K j J).1,o _ _ (K j J).2⟩⟩
  rows:=λj f h=>by
   rcases z j f h with⟨rfl,rfl⟩|⟨U,h⟩
   ·exact .inr ⟨b,cap,d,G,m.set,hs,by rw [hl];exact h3,h4,hw,λk j D J=>(T k j D J).keep O⟩
   ·rcases g.rows j f h with h|⟨b2,A,X,N,M,i2,i3,i4,i5,i6⟩
    ·exact .inl h
    ·exact .inr ⟨b2,A,X,N,M.other (λe=>U (g.rr j i f r (b2,A) h L N (b,cap) G e)),i2,i3,i4,i5,λk j D J=>(i6 k j D J).keep O⟩
  boxes:=λt u h=>by
   obtain⟨N,⟨e,M⟩,i2⟩:=g.boxes t u h;exact⟨N,⟨e,M.other (g.br t u i r (b,cap) h L G)⟩,i2⟩
  vv:=g.vv
  rr:=λj Z f r2 p h q=>by obtain⟨l,h,_⟩:=H j f h;obtain⟨r1,q,_⟩:=H Z r2 q;exact g.rr j Z l r1 p h q
  vr:=λt u j f p h q=>by obtain⟨l,q,_⟩:=H j f q;exact g.vr t u j l p h q
  bb:=g.bb
  bv:=g.bv
  br:=λt u j f p h q=>by obtain⟨l,q,_⟩:=H j f q;exact g.br t u j l p h q}
def spl(d0:PD)(off:Nat)(d:PD):PD:=if d.width=d0.width then d else .ak (d0.cells.take off++d.cells++d0.cells.drop (off+d.width))
def Do{d0 d:PD}{off:Nat}(h:off+d.width<=d0.width):(spl d0 off d).width=d0.width:=by
 unfold spl
 split
 ·assumption
 ·show(d0.cells.take off++d.cells++d0.cells.drop (off+d.width)).length=d0.width
  rw [bd,bd,fb,fa,PD.bD,PD.bD];omega
def Hh{d0 d:PD}{off:Nat}(h:off+d.width<=d0.width)(hj:j<d0.width):(spl d0 off d).cell j=if off<=j/\j<off+d.width then d.cell (j-off)else d0.cell j:=by
 unfold spl
 split
 ·rename_i e
  have:off=0:=qk;subst this;rw [af qk];simp
 ·have H:=qj (.ak []:PD) d0.cells d.cells off j (by simp only [PD.bD];exact h) ww
  rw [PD.bD]at H;show(d0.cells.take off++d.cells++d0.cells.drop (off+d.width)).getD j (.ak [])=_;rw [H]
  split
  ·rw [PD.jy _ _ qk]
  ·rw [PD.jy _ _ hj]
def R.PP{y:Operand}{ty:TypeId}{off:Nat}{d:PD}(ho:o.op= .store ty x y)(hg:o.guard=none)(hd:bU s o)(hx:aO s x= .dP i n off)(U:s.row i=some r)(hy:aO s y= .pd d)(hz:aP C.P ty≠0)(hl:aP C.P ty=d.width)(hn:n<r.ds.length)
  (J:off+d.width<=r.sz)(next:R C (.ops all l::k) ((s.setRow i {r with ds:=r.ds.set n (spl (r.ds.getD n (.ak [])) off d)}).put o.dst .dead)):R C (.ops all (o::l)::k) s:=by
 intro a w E g;refine bA hg λK hK=>?_;have h1:=aT g x;rw [hx]at h1;have X:=aT g y;rw [hy]at X;obtain⟨b,u,Q,Z⟩:=h1 r U;rcases g.rows i r U with⟨P,_⟩|⟨b',cap',f,P,m,i2,i3,i4,i5,i6⟩
 ·rw [P]at Q;cases Q
 rw [P]at Q;cases Q;have M:=aH.zD X;have H:=(aH.cells X).2
 have G:∀v∈(a.eval y).cells.toList,v.oneCell'=true:=by
  intro v hv;obtain⟨j,L,rfl⟩:=bN hv;have:=H j (by rw [PD.bD,<-M];simpa using L);have N:=this.oneCell;rw [ag,ca L]at N;exact N
 have t:(a.eval y).cells.toList.length=d.width:=uu M
 have hmul:n*r.sz+r.sz<=u*r.sz:=by
  have:n+1<=u:=qk;rw [<-eo];exact c9 _ this
 have T:=run_storeCells_at C.P b (n*r.sz+off) r.e (a.eval y).cells.toList 0 f w m.2.2 (by rw [i2,t];omega) G
 have A:(ln ty (a.eval x) (a.eval y)).run C.P w= .ok () (w.setRow b (f.toList.take (n*r.sz+off)++(a.eval y).cells.toList++f.toList.drop (n*r.sz+off+(a.eval y).cells.toList.length)).toArray):=by
  simp only [ln,Z,ez,az,aD,a8,storeVar,jf hz];rw [ae qk];simpa using T
 unfold b5 execOp;simp only [ho,az,A,a8,aD,Oper.upon_skip];have p:=i5 n hn
 have O:∀q,(r.ds.set n (spl (r.ds.getD n (.ak [])) off d)).getD q (.ak [])=if q=n then spl (r.ds.getD n (.ak [])) off d else r.ds.getD q (.ak []):=by
  intro q;simp only [ag]
  by_cases e:n=q
  ·subst e;rw [pD hn,af rfl];rfl
  ·rw [g8 e,ae (bt e)]
 have g':=g.He U P (r.ds.set n (spl (r.ds.getD n (.ak [])) off d)) (f.toList.take (n*r.sz+off)++(a.eval y).cells.toList++f.toList.drop (n*r.sz+off+(a.eval y).cells.toList.length)).toArray qr
  (by simp only [dp,bd,fb,fa,cb,t,i2];omega) (λq D=>by
   simp only [cc]at D;rw [O]
   split
   ·rw [Do (by rw [p];exact J),p]
   ·exact i5 q D) (λq j D L=>by
   simp only [cc]at D
   have hqm:q*r.sz+r.sz<=u*r.sz:=by
    have:q+1<=u:=qk;rw [<-eo];exact c9 _ this
   have e1:((f.toList.take (n*r.sz+off)++(a.eval y).cells.toList++f.toList.drop (n*r.sz+off+(a.eval y).cells.toList.length)).toArray).getD (q*r.sz+j) undef=(f.toList.take (n*r.sz+off)++(a.eval y).cells.toList++f.toList.drop (n*r.sz+off+(a.eval y).cells.toList.length)).getD (q*r.sz+j) undef:=by
    rw [aL,ag,gc]
   rw [e1,qj _ _ _ _ _ (by rw [t,cb,i2];omega) (by rw [cb,i2];omega),t,O];have z:=i6 q j D L
   by_cases e:q=n
   ·subst e
    rw [af rfl,Hh (by rw [p];exact J) (by rw [p];exact L)]
    by_cases c:off<=j/\j<off+d.width
    ·rw [af c,af qk]
     have N:=H (j-off) (by rw [PD.bD];omega);rw [PD.jy _ _ qk]at N;have:q*r.sz+j-(q*r.sz+off)=j-off:=qk;rw [this];exact N
    ·rw [ae c,ae qk]
     simpa [aL,ag]using z
   ·rw [ae e,ae (by
     intro c;rcases cn q n with h|h
     ·have:q*r.sz+r.sz<=n*r.sz:=by rw [<-eo];exact c9 _ h
      omega
     ·have:n*r.sz+r.sz<=q*r.sz:=by rw [<-eo];exact c9 _ qk
      omega)]
    simpa [aL,ag]using z)
 exact hK _ _ (next _ _ _ (g'.eY (o:=o) hd trivial qr))
def R.empty{d:Nat}(id:Nat)(hid:C.fP id=none)(r:o.op= .buildSlice t 0 #[])(u:o.guard=none)(x:o.dst=some d)(hn:d<s.n)(v:eu C.P t=some e)(z:aP C.P e≠0)(H:(bG C.P e).isSome=true)
  (next:R C (.ops all l::k) ((s.newRow id ⟨e,aP C.P e,[]⟩).set d (.own id))):R C (.ops all (o::l)::k) s:=by
 intro a w E g;refine bA u λK D=>?_;have f:=run_buildSlice (P:=C.P) (w:=w) (n:=0) (vs:=[]) (parts:=#[]) v rfl z qr H qr rfl qr;unfold b5 execOp;simp only [r,az,Array.map_empty,f,a8,aD,ci];simp only [x]
 have G:=g.row (i:=id) (r':=⟨e,aP C.P e,[]⟩) (w':=w.alloc (.cells (flat []).toArray e)) (some (w.heap.size,0)) (Keeps.of_below g.gw (bF w _) (λ_ _ h=>h)) (g.kept.trans (.of_below (bF w _))) qr (λp hp=>j6)
  (λb A _=>heap_alloc_old w _ b A) (.inr ⟨w.heap.size,0,_,rfl,⟨.inl g.kept.size,λn hn=>w7,heap_alloc_new w _⟩,by simp [flat],qr,by simp [maxLen],λk q=>by simp at q,λk j q=>by simp at q⟩) (λb c h=>vl)
 exact D _ _ (next _ _ _ (G.put hn (λr' m=>.inr ⟨w.heap.size,0,qr,by
  rw [St.iY,af rfl]at m;cases m;rfl⟩) qr))
def uY(h:eu P t=some e)(b:Option Addr)(n c:Nat):(Op.equal t (.slice b n c) (.slice none 0 0)).run P w= .ok b.isNone w:=by
 unfold Op.equal Op.maxDepth;show(Op.equalIn (9999+1) t _ _).run P w=_;rw [Op.equalIn]
 cases b<;>simp only [az,bq (iJ h),a8,aD,Option.isNone]
def R.isNil{y:Operand}{q:TypeId}(i:o.op= .binOp .eql t x y q)(p:o.guard=none)(r:bU s o)(n:aO s x= .pd (.list sz ds))(m:aO s y= .pd (.raw (.slice none 0 0)))(d:eu C.P t=some e)
  (next:∀b:Bool,(b=true->ds=[])->R C (.ops all l::k) (s.put o.dst (.pd (.raw (.bool b))))):R C (.ops all (o::l)::k) s:=by
 intro a w E g;refine bA p λK z=>?_;have j:=aT g x;rw [n]at j;have h:=aT g y;rw [m]at h;have h:=aH.aC h;generalize f:a.eval x=v at j;have G:=iJ d
 have key:∃b:Bool,(b=true->ds=[])/\(execOp a.eval o).run C.P w= .ok (.value (.bool b)) w:=by
  cases j with
  |nil=>
   refine⟨true,λ_=>rfl,?_⟩;unfold execOp;simp [i,f,h,eqGuard,binOp,uY d]
  |empty _ a=>
   refine⟨false,qr,?_⟩;unfold execOp;simp [i,f,h,eqGuard,binOp,uY d]
  |list _ _ b off A D=>
   refine⟨false,qr,?_⟩;unfold execOp;simp [i,f,h,eqGuard,binOp,uY d]
 obtain⟨b,u,H⟩:=key;unfold b5;rw [H,ci];exact z _ _ (next b u _ _ _ (g.eY r (.raw _ rfl) qr))
end
def dN(s:St)(o:Oper):Prop:=match o.dst with|some t=>t<s.n|none=>True
def cxP(P:Program)(fn:Func)(w:World)(G:Pub)(rs:List PD):(Cx.fn P fn w G rs).P=P:=rfl
def cxV(P:Program)(fn:Func)(w:World)(G:Pub)(rs:List PD)(t:Nat):(Cx.fn P fn w G rs).vb0 t=none:=rfl
def cxR(P:Program)(fn:Func)(w:World)(G:Pub)(rs:List PD)(i:Nat):(Cx.fn P fn w G rs).fP i=none:=rfl
def cwP(P:Program)(fn:Func)(w:World)(G:Pub)(rs:List PD):(Cx.DU P fn w G rs).P=P:=rfl
def cwV(P:Program)(fn:Func)(w:World)(G:Pub)(rs:List PD)(t:Nat):(Cx.DU P fn w G rs).vb0 t=none:=rfl
def cwR(P:Program)(fn:Func)(w:World)(G:Pub)(rs:List PD)(i:Nat):(Cx.DU P fn w G rs).fP i=none:=rfl
def cwM(P:Program)(fn:Func)(w:World)(G:Pub)(rs:List PD)(i:Nat):(Cx.DU P fn w G rs).mu i=False:=rfl
def ah(h:dN s o):bU s o:=λt H=>by simpa [dN,H]using h
def PQ(l:List PD):(PD.ak l).fZ=true:=rfl
def sB(v:Value):(PD.raw v).fZ=false:=rfl
def Mu(n:Nat)(l:List PD):(PD.list n l).fZ=false:=rfl
def mX(v:Value):(PD.raw v).width=1:=rfl
def Mv(n:Nat)(l:List PD):(PD.list n l).width=1:=rfl
def PR(l:List PD):(PD.ak l).width=l.length:=rfl
def PT(f:FuncId)(l:List PD):(PD.clo f l).width=1:=rfl
def Qf(d:PD):(PD.ptr d).width=1:=rfl
def Qt(d:PD)(j:Nat):(PD.ptr d).cell j= .ptr d:=rfl
def Q0(d:PD):(PD.ptr d).cells=[.ptr d]:=rfl
def SU(k:List Value)(l:List PD):(PD.mp k l).width=1:=rfl
def sC(v:Value)(j:Nat):(PD.raw v).cell j= .raw v:=rfl
def Mw(n:Nat)(l:List PD)(j:Nat):(PD.list n l).cell j= .list n l:=rfl
def Q1(l:List PD)(j:Nat):(PD.ak l).cell j=l.getD j (.ak []):=rfl
def Q2(f:FuncId)(l:List PD)(j:Nat):(PD.clo f l).cell j= .clo f l:=rfl
def SZ(k:List Value)(l:List PD)(j:Nat):(PD.mp k l).cell j= .mp k l:=rfl
def sE(v:Value):(PD.raw v).cells=[.raw v]:=rfl
def Mx(n:Nat)(l:List PD):(PD.list n l).cells=[.list n l]:=rfl
def Q3(l:List PD):(PD.ak l).cells=l:=rfl
def Q4(f:FuncId)(l:List PD):(PD.clo f l).cells=[.clo f l]:=rfl
def Ta(k:List Value)(l:List PD):(PD.mp k l).cells=[.mp k l]:=rfl
def seqB(k:Nat):Nat->List Nat->Bool
 |0,[]=>true
 |n+1,x::l=>(x==k)&&seqB (k+1) n l
 |_,_=>false
def UF:∀{n k:Nat} {l:List Nat},seqB k n l=true->l=List.range' k n
 |0,k,[],_=>rfl
 |0,k,_::_,h=>by simp [seqB]at h
 |n+1,k,[],h=>by simp [seqB]at h
 |n+1,k,x::l,h=>by
  simp only [seqB,bj,cy]at h;rw [h.1,UF h.2,List.range'_succ]
def Ad{l:List Nat}(h:seqB 0 n l=true):l=aw n:=by rw [UF h,List.range_eq_range']
def LC(sz:Nat):List PD->Prop
 | []=>True
 |d::l=>d.width=sz/\LC sz l
def UG{sz:Nat}:∀{l:List PD},LC sz l->∀i,i<l.length->(l.getD i (.ak [])).width=sz
 | [],_,i,h=>xy
 |d::l,h,0,_=>h.1
 |d::l,h,i+1,H=>uu (UG h.2 i (uu H))
def Pz{l:List PD}(h:LC sz l)(H:l.length=n)(i:Nat)(hi:i<n):(l.getD i (.ak [])).width=sz:=UG h i qk
def ev1(C:Cx)(all:Array Oper)(o:Oper)(l:List Oper)(k:List KI)(s:St)(K:St->Prop):Prop:=
 match ay C.P (aO s) s.var s.row o.op with
 |some (g,v)=>g/\dN s o/\K (s.put o.dst v.unbox)
 |none=>match o.op with
  | .alloc t=>match bG C.P t,o.dst with
   |some z,some d=>z.all Value.oneCell'=true/\d<s.n/\C.vb0 d=none/\K ((s.set d (.box z)).newVar d (z.map λv=>.pd (.raw v)))
   |_,_=>R C (.ops all (o::l)::k) s
  | .box _ x=>match BN s.row (aO s x),o.dst with
   |some L,some d=>d<s.n/\C.vb0 d=none/\K (s.newVar d (L.map (SV.kill d)))
   |_,_=>R C (.ops all (o::l)::k) s
  | .store T x y=>match aO s x with
   | .aA f off=>match BN s.row (aO s y),s.var f with
    |some L,some a=>aP C.P T≠0/\aP C.P T=L.length/\off+L.length<=a.length/\dN s o/\K ((s.setVar f (a.take off++L++a.drop (off+L.length))).put o.dst .dead)
    |_,_=>R C (.ops all (o::l)::k) s
   | .dP i n off=>match aO s y,s.row i with
    | .pd d,some r=>aP C.P T≠0/\aP C.P T=d.width/\n<r.ds.length/\off+d.width<=r.sz/\dN s o/\K ((s.setRow i {r with ds:=r.ds.set n (spl (r.ds.getD n (.ak [])) off d)}).put o.dst .dead)
    |_,_=>R C (.ops all (o::l)::k) s
   |_=>R C (.ops all (o::l)::k) s
  | .binOp op t x y _=>match op,aO s x,aO s y,eu C.P t with
   | .eql,.pd (.list _ ds),.pd (.raw (.slice none 0 0)),some _=>dN s o/\∀b:Bool,(b=true->ds=[])->K (s.put o.dst (.pd (.raw (.bool b))))
   |_,_,_,_=>R C (.ops all (o::l)::k) s
  | .buildSlice t 0 P=>match eu C.P t,o.dst with
   |some e,some d=>P= #[]/\C.fP (1000+d)=none/\d<s.n/\aP C.P e≠0/\(bG C.P e).isSome=true/\K ((s.newRow (1000+d) ⟨e,aP C.P e,[]⟩).set d (.own (1000+d)))
   |_,_=>R C (.ops all (o::l)::k) s
  | .buildSlice t n P=>match eu C.P t,oZ (P.toList.map λp=>aO s p.2)with
   |some e,some ds=>aP C.P e≠0/\n*aP C.P e<=16777216/\seqB 0 n (P.toList.map (·.1))=true/\LC (aP C.P e) ds/\(bG C.P e).isSome=true/\dN s o/\K (s.put o.dst (.pd (.list (aP C.P e) ds)))
   |_,_=>R C (.ops all (o::l)::k) s
  |_=>R C (.ops all (o::l)::k) s
def ev(C:Cx):Nat->List KI->St->Prop
 |0,k,s=>R C k s
 |_+1,[],s=>R C [] s
 |n+1,.inBlock _::k,s=>ev C n k s
 |_+1,.aU J::k,s=>R C (.aU J::k) s
 |n+1,.ops _ []::k,s=>ev C n k s
 |n+1,.ops a (o::l)::k,s=>match o.guard with
  |none=>ev1 C a o l k s λf=>ev C n (.ops a l::k) f
  |some (j,d)=>match(a[j]?).bind (·.dst)with
   |some t=>match s.get t with
    | .pd (.raw (.bool c))=>match ay C.P (yI s) s.var s.row o.op with
     |some (e,v)=>((c==d)=true->e)/\qF (c==d) (o.op.operands.toList.map (aO s))/\dN s o/\ev C n (.ops a l::k) (s.put o.dst (.gd (c==d) v.unbox))
     |none=>R C (.ops a (o::l)::k) s
    |_=>R C (.ops a (o::l)::k) s
   |none=>R C (.ops a (o::l)::k) s
 |n+1,.code c::k,s=>match c with
  | .seq x y=>ev C n (.code x :: .code y::k) s
  | .skip=>ev C n k s
  | .block id c=>ev C n (.code c :: .inBlock id::k) s
  | .exit id=>match jS id k with
   |some K=>ev C n K s
   |none=>R C (.code (.exit id)::k) s
  | .cond (.tmp t) x y=>match s.get t with
   | .pd (.raw (.bool b))=>(b=true->R C (.code x::k) s)/\(b=false->R C (.code y::k) s)
   |_=>R C (.code (.cond (.tmp t) x y)::k) s
  | .region _ O false=>ev C n (.ops O O.toList::k) s
  |c=>R C (.code c::k) s
def Az{l:List Oper}{K:St->Prop}(g:o.guard=none)(f:∀s',K s'->R C (.ops all l::k) s')(h:ev1 C all o l k s K):R C (.ops all (o::l)::k) s:=by
 unfold ev1 at h
 split at h
 ·rename_i O v D
  exact R.y g (ah h.2.1) (.op O v D h.1) (f _ h.2.2)
 ·split at h
  ·rename_i t H
   split at h
   ·rename_i Z d Q a
    refine R.y g (λt' u=>by rw [a]at u;cases u;exact h.2.1) (.alloc t Z H Q h.1) ?_;rw [a];exact R.name d h.2.2.1 (by simp [St.put,St.fO]) (f _ h.2.2.2)
   ·exact h
  ·rename_i T x H
   split at h
   ·rename_i P d hl a
    exact R.box H g a h.1 h.2.1 hl (f _ h.2.2)
   ·exact h
  ·rename_i T x y H
   split at h
   ·rename_i v0 off m
    split at h
    ·rename_i P cs j U
     exact R.store H g (ah h.2.2.2.1) m U j h.1 h.2.1 h.2.2.1 (f _ h.2.2.2.2)
    ·exact h
   ·rename_i i n off m
    split at h
    ·rename_i d r j X
     exact R.PP H g (ah h.2.2.2.2.1) m X j h.1 h.2.1 h.2.2.1 h.2.2.2.1 (f _ h.2.2.2.2.2)
    ·exact h
   ·exact h
  ·rename_i op t x y q H
   split at h
   ·rename_i sz N e m j u
    exact R.isNil H g (ah h.1) m j u (λb hb=>f _ (h.2 b hb))
   ·exact h
  ·rename_i t p H
   split at h
   ·rename_i e d A a
    obtain⟨M,L,z,J,G,E⟩:=h;subst M;exact R.empty (1000+d) L H g a z A J G (f _ E)
   ·exact h
  ·rename_i t n p hn0 H
   split at h
   ·rename_i e N A a
    obtain⟨M,L,z,J,G,E,h7⟩:=h;exact R.y g (ah E) (.slice t e n _ p N H A rfl M L (Ad z) a (Pz J (by have:=lF a;have h9:=congrArg aR (Ad z);simp at this h9;omega)) G) (f _ h7)
   ·exact h
  ·exact h
def aJ{C:Cx}:∀(n:Nat) (k:List KI) (s:St),ev C n k s->R C k s
 |0,k,s,h=>h
 |_+1,[],s,h=>h
 |n+1,.inBlock _::k,s,h=>R.inBlock (aJ n k s h)
 |_+1,.aU J::k,s,h=>h
 |n+1,.ops _ []::k,s,h=>R.nil (aJ n k s h)
 |n+1,.ops A (o::l)::k,s,h=>by
  simp only [ev]at h
  split at h
  ·rename_i H
   exact Az H (λf r=>aJ n _ f r) h
  ·rename_i j d H
   split at h
   ·rename_i t i
    split at h
    ·rename_i c p
     split at h
     ·rename_i e v a
      exact R.yg H i p (ah h.2.2.1) (λg=>⟨h.2.1,.op e v a (h.1 g)⟩) (aJ n _ _ h.2.2.2)
     ·exact h
    ·exact h
   ·exact h
 |n+1,.code c::k,s,h=>by
  unfold ev at h
  split at h
  ·exact R.seq (aJ n _ s h)
  ·exact R.skip (aJ n _ s h)
  ·exact R.block (aJ n _ s h)
  ·split at h
   ·rename_i K m;exact R.exit m (aJ n _ s h)
   ·exact h
  ·split at h
   ·rename_i b q;exact R.cond q h.1 h.2
   ·exact h
  ·exact R.region (aJ n _ s h)
  ·exact h
def KE(C:Cx)(all:Array Oper)(T:List Oper)(k:List KI):Nat->List Oper->St->Prop
 |0,l,s=>RY C all T k l s
 |_+1,[],s=>R C (.ops all T::k) s
 |n+1,o::l,s=>match o.guard with
  |none=>match ay C.P (aO s) s.var s.row o.op with
   |some (b,v)=>b/\dN s o/\KE C all T k n l (s.put o.dst v.unbox)
   |none=>match o.op with
    | .alloc t=>match bG C.P t with
     |some z=>z.all Value.oneCell'=true/\dN s o/\KE C all T k n l (s.put o.dst (.box z))
     |none=>RY C all T k (o::l) s
    | .buildSlice t m P=>match eu C.P t,oZ (P.toList.map λp=>aO s p.2)with
     |some e,some d=>aP C.P e≠0/\m*aP C.P e<=16777216/\seqB 0 m (P.toList.map (·.1))=true/\LC (aP C.P e) d/\(bG C.P e).isSome=true/\dN s o/\KE C all T k n l (s.put o.dst (.pd (.list (aP C.P e) d)))
     |_,_=>RY C all T k (o::l) s
    |_=>RY C all T k (o::l) s
  |some (j,a)=>match(all[j]?).bind (·.dst)with
   |some t=>match s.get t with
    | .pd (.raw (.bool c))=>match ay C.P (yI s) s.var s.row o.op with
     |some (b,v)=>((c==a)=true->b)/\qF (c==a) (o.op.operands.toList.map (aO s))/\dN s o/\KE C all T k n l (s.put o.dst (.gd (c==a) v.unbox))
     |none=>RY C all T k (o::l) s
    | .gd true (.pd (.raw (.bool c)))=>match ay C.P (yI s) s.var s.row o.op with
     |some (b,v)=>((c==a)=true->b)/\qF (c==a) (o.op.operands.toList.map (aO s))/\dN s o/\KE C all T k n l (s.put o.dst (.gd (c==a) v.unbox))
     |none=>RY C all T k (o::l) s
    |_=>RY C all T k (o::l) s
   |none=>RY C all T k (o::l) s
def bY{C:Cx}{all:Array Oper}{T:List Oper}{k:List KI}:∀(n:Nat) (l:List Oper) (s:St),KE C all T k n l s->RY C all T k l s
 |0,l,s,h=>h
 |_+1,[],s,h=>h
 |n+1,o::l,s,h=>by
  simp only [KE]at h
  split at h
  ·rename_i g
   split at h
   ·rename_i b v H
    exact⟨_,.inl ⟨g,.op b v H h.1⟩,ah h.2.1,bY n l _ h.2.2⟩
   ·split at h
    ·rename_i t f
     split at h
     ·rename_i z x
      exact⟨_,.inl ⟨g,.alloc t z f x h.1⟩,ah h.2.1,bY n l _ h.2.2⟩
     ·exact h
    ·rename_i t m p f
     split at h
     ·rename_i e N A r
      obtain⟨M,L,u,K,J,G,E⟩:=h;exact⟨_,.inl ⟨g,.slice t e m _ p N f A rfl M L (Ad u) r (Pz K (by have:=lF r;have D:=congrArg aR (Ad u);simp at this D;omega)) J⟩,ah G,bY n l _ E⟩
     ·exact h
    ·exact h
  ·rename_i j a g
   split at h
   ·rename_i t q
    split at h
    ·rename_i c i
     split at h
     ·rename_i b v H
      exact⟨_,.inr (.inl ⟨j,a,t,c,_,g,q,.inl i,rfl,λd=>⟨h.2.1,.op b v H (h.1 d)⟩⟩),ah h.2.2.1,bY n l _ h.2.2.2⟩
     ·exact h
    ·rename_i c i
     split at h
     ·rename_i b v H
      exact⟨_,.inr (.inl ⟨j,a,t,c,_,g,q,.inr i,rfl,λd=>⟨h.2.1,.op b v H (h.1 d)⟩⟩),ah h.2.2.1,bY n l _ h.2.2.2⟩
     ·exact h
    ·exact h
   ·exact h
def AA(s:St):List (Nat×SV)->Prop
 | []=>True
 |(t,x)::l=>s.get t=x/\AA s l
def QK(s:St):List (Nat×List SV)->Prop
 | []=>True
 |(t,x)::l=>s.var t=some x/\QK s l
def PE{s:St}:∀{l:List (Nat×SV)},AA s l->∀t x,lk t l=some x->s.get t=x
 | [],_,t,x,h=>xc
 |(j,y)::l,H,t,x,h=>by
  simp only [lk]at h
  split at h
  ·rename_i e;subst e;cases h;exact H.1
  ·exact PE H.2 t x h
def Ya{s:St}:∀{l:List (Nat×List SV)},QK s l->∀t x,lk t l=some x->s.var t=some x
 | [],_,t,x,h=>xc
 |(j,y)::l,H,t,x,h=>by
  simp only [lk]at h
  split at h
  ·rename_i e;subst e;cases h;exact H.1
  ·exact Ya H.2 t x h
def KF(s:St):List (Nat×Row)->Prop
 | []=>True
 |(t,x)::l=>s.row t=some x/\KF s l
def Hf(s:St):List (Nat×dQ)->Prop
 | []=>True
 |(t,x)::l=>s.map t=some x/\Hf s l
def Yb{s:St}:∀{l:List (Nat×Row)},KF s l->∀t x,lk t l=some x->s.row t=some x
 | [],_,t,x,h=>xc
 |(j,y)::l,H,t,x,h=>by
  simp only [lk]at h
  split at h
  ·rename_i e;subst e;cases h;exact H.1
  ·exact Yb H.2 t x h
def Yc{s:St}:∀{l:List (Nat×dQ)},Hf s l->∀t x,lk t l=some x->s.map t=some x
 | [],_,t,x,h=>xc
 |(j,y)::l,H,t,x,h=>by
  simp only [lk]at h
  split at h
  ·rename_i e;subst e;cases h;exact H.1
  ·exact Yc H.2 t x h
def St.Tb(n:s'.n=s.n)(a:AA s s'.slots)(H:QK s s'.vars)(b:KF s s'.rows)(hm:Hf s s'.maps)(g:s'.gs=s.gs):St.le s s':=by
 refine⟨n,λt=>?_,λt C h=>⟨C,Ya H t C h,rfl,λ_ _=>.same _⟩,λi r h=>Yb b i r h,λr m h=>Yc hm r m h,λt=>by simp only [St.dR,g];exact .same _⟩
 cases h:lk t s'.slots with
 |none=>simp only [St.get,h,fx];exact .dead _
 |some x=>
  have:=PE a t x h;have e:s'.get t=x:=by simp [St.get,h]
  rw [e,this];exact .same _
def R.ux(h:R C k s')(l:s'.n=s.n/\AA s s'.slots/\QK s s'.vars/\KF s s'.rows/\Hf s s'.maps/\s'.gs=s.gs):R C k s:=R.weak (St.Tb l.1 l.2.1 l.2.2.1 l.2.2.2.1 l.2.2.2.2.1 l.2.2.2.2.2) h
def R.o8{J:St->Prop}(h:J s')(l:s'.n=s.n/\AA s s'.slots/\QK s s'.vars/\KF s s'.rows/\Hf s s'.maps/\s'.gs=s.gs):R C (.aU J::k) s:=R.ux (R.aU h) l
def QM(s s':St):Prop:=s'.n=s.n/\AA s s'.slots/\QK s s'.vars/\KF s s'.rows/\Hf s s'.maps/\s'.gs=s.gs
def R.to(s':St)(l:QM s s')(h:R C k s'):R C k s:=R.ux h l
structure Fam{ι:Type}(S:ι->St)(Inv:ι->Prop)(μ:ι->Nat)(i:ι)(s:St):Prop where
 out:∃j,Inv j/\μ j<μ i/\s=S j
def R.fam{c:Code}(S:ι->St)(Inv:ι->Prop)(μ:ι->Nat)(a:ι)(hi:Inv a)(l:QM s (S a))(r:∀i,Inv i->R C (.code c :: .aU (Fam S Inv μ i)::k) (S i)):R C (.code (.loop c)::k) s:=by
 refine R.to (S a) l ?_;refine R.loop (λn s=>∃i,Inv i/\μ i=n/\s=S i) (μ a) ⟨a,hi,rfl,rfl⟩ ?_;rintro n s ⟨i,f,rfl,rfl⟩
 have e:(λd=>∃N,N<μ i/\∃b,Inv b/\μ b=N/\d=S b)=Fam S Inv μ i:=by
  funext d
  apply propext;constructor
  ·rintro⟨N,H,j,h,rfl,g⟩;exact⟨⟨j,h,H,g⟩⟩
  ·rintro⟨⟨j,H,h,m⟩⟩;exact⟨μ j,h,j,H,rfl,m⟩
 rw [e];exact r i f
def R.nZ{S:ι->St}{Inv:ι->Prop}{μ:ι->Nat}{i:ι}(j:ι)(h:Inv j)(hm:μ j<μ i)(l:QM s (S j)):R C (.aU (Fam S Inv μ i)::k) s:=
 R.to (S j) l (R.aU ⟨j,h,hm,rfl⟩)
def JA{α:Type}(keep:List Nat):List (Nat×α)->List (Nat×α)
 | []=>[]
 |(t,v)::l=>if keep.contains t then(t,v)::JA keep l else JA keep l
def St.lp(keep:List Nat)(m:List (Nat×SV))(k:List Nat)(A:List (Nat×List SV))(K:List Nat)(a:List (Nat×Row))(s:St):St:=
 ⟨s.n,m++JA keep s.slots,A++JA k s.vars,a++JA K s.rows,s.maps,s.gs⟩
def R.og{c:Code}(M:ι->St->St)(Inv:ι->Prop)(μ:ι->Nat)(a:ι)(hi:Inv a)(l:QM s (M a s))(r:∀i,Inv i->R C (.code c :: .aU (Fam (λi=>M i s) Inv μ i)::k) (M i s)):R C (.code (.loop c)::k) s:=
 R.fam (λi=>M i s) Inv μ a hi l r
def ev8(h:ev C 80 k s):R C k s:=aJ 80 k s h
def ac{Q:Prop}(q:Q)(h:Q->ev C 80 k s:=by simp only [go_sem];exactλh=>h):R C k s:=ev8 (h q)
end Go.au
