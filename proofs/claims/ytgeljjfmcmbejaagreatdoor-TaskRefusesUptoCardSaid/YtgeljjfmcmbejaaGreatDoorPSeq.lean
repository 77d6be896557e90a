/- A part of the proof. -/
import Derived.Test.YtgeljjfmcmbejaaGreatDoorPAy3
import Derived.Laws.StructEq
import Derived.Laws.Pointers
set_option linter.all false
set_option linter.deprecated false
open Array renaming getD→bc,toArray_toList→eM,length_toList→cb
open Go renaming run_equalIn_bool→ro,run_underlying→bq,wpList_plain→bA
open Go.Call renaming operands→di
open Go.Instr renaming makeFunc→B1,sameNow→sj,findNow→iI,checkKey→l8,findKey→sk,lookup→rh,fill→nn,buildSlice→sf,storeAt→ln
open Go.Op renaming eqFields→nA,equal→lE,maxDepth→rv,operands→bR
open Go.Oper renaming wp→b5,upon_value→ci
open Go.Result renaming andThen_ok→a8
open Go.Sem renaming run_bind→az,run_pure→aD
open Go.Value renaming oneCell'→eb
open List renaming range→aw,length_cons→an
open Option renaming map_some→ef,getD_some→bX
set_option maxRecDepth 100000
set_option maxHeartbeats 4000000
namespace Go.au
variable {d:PD}{t e ty:TypeId}{x:SV}{b l:Bool}{ds rs:List PD}{xs args cs L:List SV}{u1 u2 v u:Value}{vc:Prop}{f:FuncId}{o:Oper}{ρ:Operand->SV}{P:Program}{G G':Pub}{i clock j sz:Nat}{r r':Row}{k:List KI}{w':World}{vs:List Value}{es:Array MapEntry}
section
variable {C:Cx}{s:St}{a:Act}{w:World}{E:Env}{P:Program}{row:Nat->Option Row}
def PJ{d:Nat}{x y:Value}(h:eqV x y=some b){ds:TypeDesc}(H:P.underlying t=some ds)(a:fM ds=zC (.raw x)):
  (Op.equalIn (d+1) t x y).run P w= .ok b w:=by
 unfold eqV at h
 split at h
 ·split at h<;>cases h
  rename_i e;subst e
  cases ds<;>simp [fM,zC]at a
  exact run_equalIn_int w d t _ _ _ _ H
 ·cases h;rw [beq_toListBytes]
  cases ds<;>simp [fM,zC]at a
  exact run_equalIn_string w d t _ _ H
 ·cases h
  cases ds<;>simp [fM,zC]at a
  exact ro w d t _ _ H
 ·cases h
def sq{d:Nat}(xs s:Array Value):∀(a:List Field) (k:Nat) (ds es:List PD) (b:Bool),DK ds es=some b->
  ((a.zipIdx k).all λp=>p.1.name != "_" && p.1.offset==p.2&&(match P.underlying p.1.type with|some d=>fM d !=3|_=>false))=true->
  (a.map λf=>match P.underlying f.type with|some d=>fM d|_=>3)=ds.map zC->
  (∀j,j<ds.length->∃v,xs[k+j]? =some v/\ds.getD j (.ak [])= .raw v)->(∀j,j<es.length->∃v,s[k+j]? =some v/\es.getD j (.ak [])= .raw v)->
  (nA (d+1) xs s a).run P w= .ok b w
 | [],k,ds,es,b,h,_,m,_,_=>by
  cases ds with
  |nil=>cases es with
   |nil=>simp only [DK,bo]at h;subst h;simp [nA]
   |cons _ _=>simp [DK]at h
  |cons _ _=>simp at m
 |f::a,k,ds,es,b,h,e,m,z,r=>by
  cases ds with
  |nil=>simp at m
  |cons x ds=>
   cases es with
   |nil=>cases x<;>simp [DK]at h
   |cons y es=>
    obtain⟨o,O,G⟩:=z 0 qr;obtain⟨n,N,D⟩:=r 0 qr;simp only [eB]at G D;subst G;subst D;simp only [DK]at h
    split at h
    ·rename_i p q L K
     cases h
     simp only [List.zipIdx_cons,List.all_cons,bj,iX,ne_eq,cy]at e;obtain⟨⟨⟨M,C⟩,u⟩,e⟩:=e;simp only [ap,b9]at m
     cases E:P.underlying f.type with
     |none=>simp [E]at u
     |some Q=>
      simp only [E]at m u
      have H:(isAgg f.type).run P w= .ok false w:=by
       unfold isAgg;simp only [az,bq E,a8]
       cases Q<;>first|rfl|(simp [fM]at u;done)
      have l:(part f.type xs f.offset).run P w= .ok o w:=by
       simp [part,H,C];rw [show xs[k]? =some o from O];rfl
      have A:(part f.type s f.offset).run P w= .ok n w:=by
       simp [part,H,C];rw [show s[k]? =some n from N];rfl
      have i:=PJ (P:=P) (w:=w) (d:=d) (t:=f.type) L E m.1;have J:=sq (d:=d) xs s a (k+1) ds es q K e m.2 (λj g=>by have:=z (j+1) (uu g);simpa [et,lO 1 j]using this) (λj g=>by have:=r (j+1) (uu g);simpa [et,lO 1 j]using this);simp only [nA,ne_eq,M,i9,a7,az,l,A,i,a8]
      cases p
      ·simp
      ·simpa using J
    ·cases h
def XY:∀{ds es:List PD} {b:Bool},DK ds es=some b->(∀j,j<ds.length->∃v,ds.getD j (.ak [])= .raw v)/\(∀j,j<es.length->∃v,es.getD j (.ak [])= .raw v)
 | [],[],_,_=>⟨λj hj=>vq,λj hj=>vq⟩
 | [],_::_,_,h=>by simp [DK]at h
 |x::_,[],_,h=>by cases x<;>simp [DK]at h
 |x::ds,y::es,b,h=>by
  cases x<;>cases y<;>simp only [DK,reduceCtorEq]at h
  split at h
  ·rename_i p q a H
   have i:=XY H;exact⟨λj hj=>by cases j with|zero=>exact⟨_,rfl⟩|succ j=>simpa using i.1 j (uu hj),λj hj=>by cases j with|zero=>exact⟨_,rfl⟩|succ j=>simpa using i.2 j (uu hj)⟩
  ·cases h
def HN{xs s:List PD}(m:DK xs s=some b)(h:eqT P t=some (xs.map zC))(J:aH w E.G u1 (.ak xs))(D:aH w E.G u2 (.ak s)):
  (lE t u1 u2).run P w= .ok b w/\P.eqGuardType P.depth t=false/\∃a C,u1= .agg a/\u2= .agg C:=by
 obtain⟨a,rfl,M,q⟩:=J;obtain⟨C,rfl,L,p⟩:=D;unfold eqT at h
 cases u:P.underlying t with
 |none=>simp [u]at h
 |some K=>
  cases K<;>simp only [u]at h<;>first|(cases h;done)|skip
  rename_i o
  split at h
  ·rename_i n
   simp only [bo]at h;simp only [bj,lf]at n;obtain⟨⟨x,z⟩,A⟩:=n;have k:P.fieldsOf t=o:=by simp [Program.fieldsOf,u]
   refine⟨?_,z,a,C,rfl,rfl⟩;unfold lE rv;rw [run_equalIn_struct w 9999 t a C (by rw [k];exact u) x,k];have r:=XY m;refine sq (d:=9998) a C o.toList 0 xs s b m A h (λj e=>?_) (λj e=>?_)
   ·obtain⟨v,H⟩:=r.1 j e
    have f:=q j e;rw [H]at f;have i:=aH.aC (w:=w) (G:=E.G) f;have l:j<a.size:=qk;have g:a.getD j undef=a[j]:=by simp [bc,l]
    exact⟨a[j],by simp [l],by rw [H,<-i,g]⟩
   ·obtain⟨v,H⟩:=r.2 j e
    have f:=p j e;rw [H]at f;have i:=aH.aC (w:=w) (G:=E.G) f;have l:j<C.size:=qk;have g:C.getD j undef=C[j]:=by simp [bc,l]
    exact⟨C[j],by simp [l],by rw [H,<-i,g]⟩
  ·cases h
def Jz{op:BinOp}{v:SV}{q:Option Addr}(h:Lm P op t b=some (vc,v))(A:vc)(f:q.isNone=b)(O o:Operand):
  ∃u,(eqGuard op t O o (.pointer q) (.pointer none)>>=λ_=>binOp op t (.pointer q) (.pointer none)).run P w= .ok u w/\Rel P w E row u v:=by
 have g:∀op,(eqGuard op t O o (.pointer q) (.pointer none)).run P w= .ok () w:=λop=>by unfold eqGuard;cases op<;>rfl
 have d:XR P t=true->(lE t (.pointer q) (.pointer none)).run P w= .ok b w:=λH=>by
  unfold XR at H
  split at H
  ·rename_i e a
   have:=run_equal_pointer_nil w t q (by rw [a];simp [Program.pointee,a])
   rwa [f]at this
  ·cases H
 unfold Lm at h
 split at h<;>cases h
 ·exact⟨_,by rw [az,g];simp only [a8,binOp,az,d A,aD],.raw _ rfl⟩
 ·exact⟨_,by rw [az,g];simp only [a8,binOp,az,d A,aD],.raw _ rfl⟩
def Lr{op:BinOp}{y v:SV}(h:yu P op t x y=some (vc,v))(A:vc)(H:Rel P w E row u1 x)(d:Rel P w E row u2 y)(O o:Operand):
  ∃u,(eqGuard op t O o u1 u2>>=λ_=>binOp op t u1 u2).run P w= .ok u w/\Rel P w E row u v:=by
 unfold yu at h
 split at h
 ·rename_i a b
  have f:=aH.aC H;have e:=aH.aC d;subst f;subst e;have g:∀op,(eqGuard op t O o (.bool a) (.bool b)).run P w= .ok () w:=λop=>by unfold eqGuard;cases op<;>rfl
  split at h<;>cases h
  ·exact⟨_,by rw [az,g];simp [binOp,lE,rv,ro w 9999 t a b (XU A)],.raw _ rfl⟩
  ·exact⟨_,by rw [az,g];simp [binOp,lE,rv,ro w 9999 t a b (XU A),bne],.raw _ rfl⟩
 ·have f:=aH.aC H;have e:=aH.aC d
  subst f;subst e;exact Jz h A rfl O o
 ·rename_i u k _ _
  cases i:tZ op u k with
  |none=>simp [i]at h
  |some p=>
   simp only [i,ef,bo,dz]at h;obtain⟨rfl,rfl⟩:=h;have f:=aH.aC H;have e:=aH.aC d;subst f;subst e;obtain⟨n,m⟩:=B9 (P:=P) (w:=w) (vc:=p.1) (u:=p.2) i A t O o;exact⟨p.2,n,.raw _ m⟩
 ·rename_i X s
  split at h<;>cases h
  all_goals
   rename_i b l;obtain⟨r,g,q,C,rfl,rfl⟩:=HN l A H d;refine⟨_,?_,.raw _ rfl⟩;simp [eqGuard,g,binOp,r]
 ·have e:=aH.aC d;subst e
  cases H
  exact Jz h A rfl O o
 ·have e:=aH.aC d;subst e
  simp only [Rel]at H;subst H;exact Jz h A rfl O o
 ·have e:=aH.aC d;subst e
  obtain⟨b,j,rfl,_⟩:=H;exact Jz h A rfl O o
 ·cases h
def XZ:∀{l:List SV} {ds:List PD} {vs:List Value},refs l=some ds->vs.length=l.length->(∀i,i<l.length->Rel P w E row (vs.getD i undef) (l.getD i .dead))->
  ∃bs:List (Nat×Nat),bs.length=ds.length/\vs=(bs.map λp=>Value.pointer (some ⟨p.1,p.2,none⟩))/\∀i,i<ds.length->lD w E.G (bs.getD i (0,0)).1 (bs.getD i (0,0)).2 (ds.getD i (.ak []))
 | [],ds,vs,h,H,_=>by
  simp only [refs,bo]at h;subst h
  cases vs with
  |nil=>exact⟨[],rfl,rfl,λi hi=>wh⟩
  |cons _ _=>simp at H
 |x::l,ds,[],h,H,_=>by simp at H
 |x::l,ds,v::vs,h,H,j=>by
  unfold refs at h
  split at h
  ·rename_i e;cases e
  ·rename_i d L e
   cases e
   cases f:refs l with
   |none=>simp [f]at h
   |some r=>
    simp [f]at h;subst h;obtain⟨bs,h1,n,m⟩:=XZ (vs:=vs) f (uu H) (λi hi=>uu (j (i+1) (uu hi)));obtain⟨b,a,g,k⟩:=j 0 qr;simp only [eB,Nat.add_zero]at g;refine⟨(b,a)::bs,yp,by simp [g,n],λi hi=>?_⟩
    cases i with
    |zero=>exact k
    |succ i=>simpa using m i (uu hi)
  ·cases h
def ss{bs:List (Nat×Nat)}(l:bs.length=ds.length)(h:∀i,i<ds.length->lD w E.G (bs.getD i (0,0)).1 (bs.getD i (0,0)).2 (ds.getD i (.ak []))):
  Rd w E.G (.func (.func f) #[] (bs.map λp=>Value.pointer (some ⟨p.1,p.2,none⟩)).toArray) (.clo f ds):=by
 refine .clo f ds bs (λi j=>(w.cell? ⟨(bs.getD i (0,0)).1,(bs.getD i (0,0)).2+j,none⟩).getD undef) l (λi j a H=>(h i a j H).1) (λi j a H=>?_) (λi j a H=>?_)
 ·obtain⟨_,v,b,_⟩:=h i a j H;rw [b];rfl
 ·obtain⟨_,v,b,d⟩:=h i a j H;rw [b];exact d
end
section
variable {C:Cx}{s:St}{a:Act}{w:World}{E:Env}{P:Program}{row:Nat->Option Row}
def aB.X0(g:aB C s a w E):∀id r,s.row id=some r->0<r.ds.length->∃b cap,E.rb id=some (b,cap):=by
 intro id r d H;rcases g.rows id r d with⟨_,h⟩|⟨b,cap,f,e,_⟩
 ·rw [h]at H;simp at H
 ·exact⟨b,cap,e⟩
def aB.nX(g:aB C s a w E):∀id r,s.row id=some r->E.rb id=none->r.ds=[]:=by
 intro id r d H;rcases g.rows id r d with⟨_,h⟩|⟨b,p,f,e,_⟩
 ·exact h
 ·rw [e]at H;cases H
def Np{s:List Field}(h:∀f∈s,aP P f.type≠0):
  (s.toArray.mapM λ(f:Field)=>do pure (f.offset,<-sizeOf f.type)).run P w= .ok (s.map λf=>(f.offset,aP P f.type)).toArray w:=by
 rw [mH]
 have:∀(s:List Field),(∀f∈s,aP P f.type≠0)->(s.mapM λ(f:Field)=>do pure (f.offset,<-sizeOf f.type)).run P w= .ok (s.map λf=>(f.offset,aP P f.type)) w:=by
  intro s
  induction s with
  |nil=>intro _;simp
  |cons f s i=>
   intro h;simp only [l6,az,jf (h f (bk ..)),a8,aD,i (λx H=>h x (b3 _ H)),ap]
 rw [Sem.run_map,this s h];rfl
def Y0(g:aB C s a w E)(H:∀x∈o.op.operands,Rel C.P w E s.row (a.eval x) (ρ x)){v:SV}(h:ay C.P ρ s.var s.row o.op=some (vc,v))(O:vc):
  ∃u,(execOp a.eval o).run C.P w= .ok (.value u) w/\Rel C.P w E s.row u v:=by
 obtain⟨dst,op,type,pos,after,guard⟩:=o;simp only at H h
 cases op with
 |move x=>
  simp only [ay,bo,dz]at h;obtain⟨_,rfl⟩:=h;exact⟨_,rfl,H x xd⟩
 |assign x=>
  simp only [ay,bo,dz]at h;obtain⟨_,rfl⟩:=h;exact⟨_,rfl,H x xd⟩
 |pick c x y=>
  simp only [ay]at h;obtain⟨b,hc,hr⟩:=BC h O (H c xd) (H x xd) (H y xd);refine⟨_,?_,hr⟩;simp [execOp,hc,asBool]
 |load t x=>
  simp only [ay]at h;obtain⟨u,h1,D⟩:=BL g h O (H x xd);exact⟨u,un,D⟩
 |nilCheck x=>
  simp only [ay]at h;exact⟨_,Lp h (H x xd) a.eval x rfl _ rfl⟩
 |binOp op t x y ty=>
  simp only [ay]at h;obtain⟨u,h1,D⟩:=Lr h O (H x xd) (H y xd) x y;refine⟨u,?_,D⟩;simp only [execOp];rw [az,h1];rfl
 |unOp op t x=>
  simp only [ay]at h
  split at h
  ·rename_i u M
   cases hb:Nh op u with
   |none=>simp [hb]at h
   |some p=>
    simp [hb]at h;obtain⟨_,rfl⟩:=h;have h1:=H x xd;rw [M]at h1;have J:=aH.aC h1;obtain⟨h3,h4⟩:=HL (P:=C.P) (w:=w) hb;exact⟨p,by simp [execOp,J,h3],.raw _ h4⟩
  ·cases h
 |convert src d x=>
  simp only [ay]at h
  split at h
  ·rename_i k0 n k M hk
   cases h
   have h1:=H x xd;rw [M]at h1;have J:=aH.aC h1;refine⟨.int k (k.wrap n),?_,.raw _ rfl⟩;simp only [execOp,J]
   cases hs:C.P.underlying src with
   |none=>simp [aQ,hs]at O
   |some ds=>simp [Go.convert,bq hs,bq (EF hk),Conv.intToInt]
  ·cases h
 |makeFunc fn first L=>
  cases fn with
  |func f=>
   simp only [ay]at h
   split at h
   ·rename_i hf
    have hf':first= #[]:=uu hf
    subst hf'
    have Z:∀i,i<(L.toList.map ρ).length->Rel C.P w E s.row ((L.toList.map a.eval).getD i undef) ((L.toList.map ρ).getD i .dead):=λi N=>by
     simp only [al]at N;have:L.toList[i]∈L:=ka.1 (am N);have D:=H L.toList[i] (by simp only [bR,ip];exact this);have J:(L.toList.map a.eval).getD i undef=a.eval L.toList[i]:=by simp only [ag,cU,ca N,ef,bX]
     have Q:(L.toList.map ρ).getD i .dead=ρ L.toList[i]:=by simp only [ag,cU,ca N,ef,bX]
     rw [J,Q];exact D
    cases hc:caps (L.toList.map ρ)with
    |none=>
     cases hr:refs (L.toList.map ρ)with
     |none=>simp [hc,hr]at h
     |some ds=>
      simp [hc,hr]at h;obtain⟨_,rfl⟩:=h;obtain⟨bs,h1,D,h3⟩:=XZ (P:=C.P) (w:=w) (E:=E) (row:=s.row) (vs:=L.toList.map a.eval) hr qr Z;refine⟨.func (.func f) #[] (L.map a.eval),by simp [execOp,B1],?_⟩;have e:L.map a.eval=(bs.map λp=>Value.pointer (some ⟨p.1,p.2,none⟩)).toArray:=by rw [<-D];apply hZ;simp
      rw [e];exact ss h1 h3
    |some ts=>
     simp [hc]at h;obtain⟨_,rfl⟩:=h;have:=XV (P:=C.P) (w:=w) (E:=E) (row:=s.row) (vs:=L.toList.map a.eval) hc qr Z;refine⟨.func (.func f) #[] (L.map a.eval),by simp [execOp,B1],?_⟩;simp only [Rel];rw [<-this];congr 1;apply hZ;simp
   ·cases h
  |_=>simp [ay]at h
 |slice t x lo N mx=>
  cases mx with
  |some _=>simp [ay]at h
  |none=>
   simp only [ay]at h
   obtain⟨u,h1,D⟩:=YZ (Nk:=lo.map a.eval) (Nl:=N.map a.eval) h O (H x xd)
    (λy hy=>by cases lo with|none=>simp at hy|some l=>simp at hy;subst hy;exact⟨_,rfl,H l xd⟩) (λhn=>uu hn)
    (λy hy=>by cases N with|none=>simp at hy|some l=>simp at hy;subst hy;exact⟨_,rfl,H l xd⟩) (λhn=>uu hn)
   exact⟨u,un,D⟩
 |fieldAddr t x f=>
  simp only [ay]at h;obtain⟨u,h1,D⟩:=xG h O (H x xd);exact⟨u,un,D⟩
 |field t x f=>
  simp only [ay]at h;obtain⟨u,h1,D⟩:=YX h O (H x xd);exact⟨u,un,D⟩
 |indexAddr t x i=>
  simp only [ay]at h
  cases N:idx (ρ i)with
  |none=>simp [N]at h
  |some ki=>
   simp [N]at h;have J:=Uu (k:=ki.1) (i:=ki.2) N (H i xd);obtain⟨u,h1,D⟩:=GZ g.X0 h O (H x xd);exact⟨u,by simp [execOp,J,h1],D⟩
 |index t x i=>
  simp only [ay]at h
  split at h
  ·rename_i st k n M N
   cases h
   obtain⟨hs,h0,hl⟩:=O;have J:=Uu N (H i xd);have h1:=H x xd;rw [M]at h1;have Q:=aH.aC h1;have U:n.toNat<st.size:=qk;refine⟨_,?_,.raw _ rfl⟩
   have hg:st[n.toNat]? =some (st.data.toList.getD n.toNat 0):=by
    have h5:n.toNat<st.data.size:=U;rw [getElem?_pos st n.toNat U];simp only [ag,ff,m7 h5,bX];rfl
   simp [execOp,J,Q,Instr.index,uf,bq (xC hs),h0,hg]
  ·cases h
 |extract x i=>
  simp only [ay]at h
  split at h
  ·rename_i ds M
   cases h
   have h1:=H x xd;rw [M]at h1;obtain⟨vs,e,hs,hr⟩:=h1;have U:i<vs.size:=qk;have:=hr i O;refine⟨vs[i],by simp [execOp,e,Instr.extract,U],?_⟩;simpa [bc,U,Rel]using this
  ·cases h
 |call c=>
  obtain⟨callee,K,tys⟩:=c;simp only [ay,DR]at h
  split at h
  ·rename_i b
   split at h
   ·split at h
    ·rename_i x t M ht
     have ha:K= #[x]:=by rw [<-eM (xs:=K),M]
     have hty:tys= #[t]:=by rw [<-eM (xs:=tys),ht]
     subst ha;subst hty;obtain⟨u,h1,D⟩:=HM (ty:=type) h O (H x (by simp [bR,di])) g.nX;exact⟨u,by simp [execOp,resolve,invoke,builtin,h1],D⟩
    ·cases h
   ·split at h
    ·rename_i x y M
     split at h
     ·rename_i k n k' m h1 D
      cases h
      have ha:K= #[x,y]:=by rw [<-eM (xs:=K),M]
      subst ha;have J:=H x (by simp [bR,di]);have Q:=H y (by simp [bR,di]);rw [h1]at J;rw [D]at Q;have J:=aH.aC J;have Q:=aH.aC Q;exact⟨_,by simp [execOp,resolve,invoke,builtin,Builtin.min_,Builtin.min2,J,Q],.raw _ rfl⟩
     ·cases h
    ·cases h
   ·split at h
    ·rename_i x y M
     split at h
     ·rename_i k n k' m h1 D
      cases h
      have ha:K= #[x,y]:=by rw [<-eM (xs:=K),M]
      subst ha;have J:=H x (by simp [bR,di]);have Q:=H y (by simp [bR,di]);rw [h1]at J;rw [D]at Q;have J:=aH.aC J;have Q:=aH.aC Q;exact⟨_,by simp [execOp,resolve,invoke,builtin,Builtin.max_,Builtin.max2,J,Q],.raw _ rfl⟩
     ·cases h
    ·cases h
   ·cases h
  ·cases h
 |build t T=>
  simp only [ay]at h
  split at h
  ·rename_i ps zs hp hz
   split at h
   ·rename_i q r hf
    cases h
    obtain⟨hq,hone,A⟩:=O;unfold jw at A
    cases X:C.P.underlying t with
    |none=>simp [X]at A
    |some d=>
     cases d<;>simp only [X]at A<;>first|(cases A;done)|skip
     rename_i fs;have hfs:∀f∈fs.toList,aP C.P f.type≠0:=λf hf=>by have:=(aM.1 A) f hf;simpa using this
     obtain⟨z,G5,hzc⟩:=yH (P:=C.P) (w:=w) hz;have hmap:=Np (P:=C.P) (w:=w) hfs;simp only [eM]at hmap
     have hpo:=QF (P:=C.P) (w:=w) (E:=E) (row:=s.row) a.eval ρ hp (λp hp'=>H p.2 (by
      simp only [bR,nl,aq];exact⟨p,hp',rfl⟩))
     obtain⟨cells,TG,hrd⟩:=XW (w:=w) (G:=E.G) X (places:=(fs.toList.map λf=>(f.offset,aP C.P f.type)).toArray) (λi off ft N hz0=>by
       obtain⟨fs',fd,hu',hfd,rfl,rfl⟩:=EG N;rw [X]at hu';cases hu';simp [hfd]) ps _ (zs.map .raw) z.cells hf hq (by
       refine⟨by simp [<-hzc],λj hj=>?_⟩;simp only [al]at hj;have h1:z.cells.toList.getD j undef=zs[j]:=by rw [hzc];simp [hj]
       have D:(zs.map PD.raw).getD j (.ak [])= .raw zs[j]:=j5;rw [h1,D];exact .raw _ (uu ((aM.1 hone) _ (am hj)))) hpo.1 hpo.2
     refine⟨.agg cells,?_,cells,rfl,uu hrd.1,λj hj=>?_⟩
     ·have hmp:(T.map λ(p:Nat×Operand)=>(p.1,a.eval p.2)).toList=T.toList.map λp=>(p.1,a.eval p.2):=qr
      simp only [execOp,Instr.build,az,G5,a8,bq X,hmap,hmp,TG,aD]
     ·have:=hrd.2 j hj
      simpa [aL,ag]using this
   ·cases h
  ·cases h
 |makeInterface t x=>
  simp only [ay]at h
  split at h
  ·rename_i u M
   cases h
   have h1:=H x xd;rw [M]at h1;have J:=aH.aC h1;unfold ifT at O
   cases X:C.P.underlying t with
   |none=>simp [X]at O
   |some d=>cases d<;>first|(simp [X]at O;done)|exact⟨_,by simp [execOp,J,Instr.makeInterface,bq X],.raw _ rfl⟩
  ·cases h
 |_=>simp [ay]at h
end
def iR(P:Program)(w:World)(G:Pub)(v:Value):SV->Prop
 | .dead=>True
 | .pd d=>aH w G v d
 | .ref d off=>∃b e,v= .pointer (some ⟨b,e+off,none⟩)/\lD w G b e d
 | .fn F=>qx P w G v F
 |_=>False
def aG(P:Program)(f:FuncId)(args:List SV)(rs:List PD):Prop:=
 aF P f/\∀w G (vals:Array Value),Good w G->vals.size=args.length->(∀i,i<args.length->iR P w G (vals.getD i undef) (args.getD i .dead))->
  Calls P f vals w (DI w G rs)
def PD.plain:PD->Bool
 | .raw _=>true
 | .unk=>true
 | .ak d=>d.all λ| .raw _=>true| .unk=>true|_=>false
 |_=>false
def plain(rs:List PD):Bool:=rs.all PD.plain
def eX:List PD->SV
 | [d]=>.pd d
 | []=>.dead
 |ds=>.tpl ds
def bg(P:Program)(f:FuncId)(args:List SV)(rs:List PD):Prop:=
 aF P f/\∀w G (vals:Array Value),Good w G->vals.size=args.length->(∀i,i<args.length->iR P w G (vals.getD i undef) (args.getD i .dead))->
  Calls P f vals w (Ez w G rs)
def aG.weak(h:aG P f args rs):bg P f args rs:=
 ⟨h.1,λw G vals g d a=>(h.2 w G vals g d a).mono λ_ _ ⟨v,e,H,b⟩=>⟨v,e,H,b.toBelow⟩⟩
inductive Cv(var:Nat->Option (List SV))(row:Nat->Option Row):SV->PD->Prop
 |pd (d:PD):Cv var row (.pd d) d
 |nil (sz:Nat):Cv var row (.pd (.raw (.slice none 0 0))) (.list sz [])
 |own (id:Nat) (r:Row) (h:row id=some r):Cv var row (.own id) (.list r.sz r.ds)
 |clo (f:FuncId) (ts:List Nat) (ds:List PD) (hl:ds.length=ts.length) (css:Nat->List SV)
   (hv:∀i,i<ts.length->var (ts.getD i 0)=some (css i)/\(ds.getD i (.ak [])).width<=(css i).length)
   (hc:∀i j,i<ts.length->j<(ds.getD i (.ak [])).width->Cv var row ((css i).getD j .dead) ((ds.getD i (.ak [])).cell j)):Cv var row (.clo f ts) (.clo f ds)
 |ptr (t:Nat) (cs:List SV) (d:PD) (h:var t=some cs) (hw:d.width<=cs.length) (hc:∀j,j<d.width->Cv var row (cs.getD j .dead) (d.cell j)):Cv var row (.aA t 0) (.ptr d)
 |unk (x:SV):Cv var row x .unk
inductive Co(P:Program)(var:Nat->Option (List SV))(row:Nat->Option Row):SV->SV->Bool->Prop
 |dead (v:SV):Co P var row v .dead false
 |pd (d:PD):Co P var row (.pd d) (.pd d) false
 |ref (d:PD) (o:Nat):Co P var row (.ref d o) (.ref d o) false
 |fn (F:List PD->PD->Prop):Co P var row (.fn F) (.fn F) false
 |nil (sz:Nat):Co P var row (.pd (.raw (.slice none 0 0))) (.pd (.list sz [])) false
 |own (id:Nat) (r:Row) (h:row id=some r):Co P var row (.own id) (.pd (.list r.sz r.ds)) true
 |var (t:Nat) (cs:List SV) (d:PD) (h:var t=some cs) (hw:d.width<=cs.length) (hc:∀j,j<d.width->Cv var row (cs.getD j .dead) (d.cell j)):Co P var row (.aA t 0) (.ref d 0) true
 |ptr (t:Nat) (cs:List SV) (d:PD) (h:var t=some cs) (hw:d.width<=cs.length) (hc:∀j,j<d.width->Cv var row (cs.getD j .dead) (d.cell j)):Co P var row (.aA t 0) (.pd (.ptr d)) true
 |pref (d:PD):Co P var row (.ref d 0) (.pd (.ptr d)) false
 |elem (id i o:Nat) (r:Row) (h:row id=some r) (hi:i<r.ds.length):Co P var row (.dP id i o) (.ref (r.ds.getD i (.ak [])) o) true
 |func (f:FuncId) (F:List PD->PD->Prop) (he:aF P f) (h:∀ds r,F ds r->aG P f (ds.map .pd) [r]):Co P var row (.pd (.raw (.func (.func f) #[] #[]))) (.fn F) false
 |clo (f:FuncId) (ts:List Nat) (ds:List PD) (F:List PD->PD->Prop) (hv:Cv var row (.clo f ts) (.clo f ds))
   (he:aF P f) (h:∀es r,F es r->aG P f (es.map .pd++ds.map λd=>.ref d 0) [r]):Co P var row (.clo f ts) (.fn F) true
 |QG (f:FuncId) (ds:List PD) (F:List PD->PD->Prop)
   (he:aF P f) (h:∀es r,F es r->aG P f (es.map .pd++ds.map λd=>.ref d 0) [r]):Co P var row (.pd (.clo f ds)) (.fn F) false
inductive iD(P:Program)(var:Nat->Option (List SV))(row:Nat->Option Row):List SV->List SV->Bool->Prop
 |nil:iD P var row [] [] false
 |cons {x y:SV} {b:Bool} {xs ys:List SV} {c:Bool} (h:Co P var row x y b) (t:iD P var row xs ys c):iD P var row (x::xs) (y::ys) (b||c)
def _root_.zc{P V R x y c d}(h:iD P V R x y c):iD P V R (.pd d::x) (.pd d::y) (false||c):=.cons (.pd _) h
def _root_.zd{P V R a}:iD P V R [.pd a] [.pd a] (false||false):=.cons (.pd _) .nil
def _root_.ze{P V R a b}:iD P V R [.pd a,.pd b] [.pd a,.pd b] (false||(false||false)):=.cons (.pd _) zd
def _root_.zg{P V R a b e}:iD P V R [.pd a,.pd b,.pd e] [.pd a,.pd b,.pd e] (false||(false||(false||false))):=.cons (.pd _) ze
def _root_.zj{P V R a b e f}:iD P V R [.pd a,.pd b,.pd e,.pd f] [.pd a,.pd b,.pd e,.pd f] (false||(false||(false||(false||false)))):=.cons (.pd _) zg
section
variable {C:Cx}{s:St}{a:Act}{w:World}{E:Env}
def lend(s:St)(E:Env):Pub:=λb o=>E.G b o\/(∃t C,s.var t=some C/\b=E.vb t)\/∃i r p,s.row i=some r/\E.rb i=some p/\b=p.1
def aB.Po(g:aB C s a w E):∀b o,lend s E b o->b<w.heap.size:=by
 intro b o h;rcases h with h|⟨t,d,h,rfl⟩|⟨i,r,p,h,H,rfl⟩
 ·exact g.gw b o h
 ·exact g.nU h
 ·exact g.ku h H
def oW(s:St)(E:Env)(w:World):Keeps w E.G w (lend s E):=.same λ_ _ h=>.inl h
def aH.one(h:aH w G v d)(H:v.oneCell'=true):Rd w G v d:=by
 cases d with
 |raw _=>exact h
 |list _ _=>exact h
 |clo _ _=>exact h
 |mp _ _=>exact h
 |ptr _=>exact h
 |unk=>exact h
 |ak l=>obtain⟨x,rfl,_⟩:=h;simp [eb]at H
def aB.sx(g:aB C s a w E)(h:s.row i=some r){b cap:Nat}(e:E.rb i=some (b,cap)){k:Nat}(H:k<r.ds.length):lD w (lend s E) b (k*r.sz) (r.ds.getD k (.ak [])):=by
 intro j d;rw [g.oM h H]at d;obtain⟨v,l,f⟩:=g.Ak h e H d;exact⟨.inr (.inr ⟨i,r,(b,cap),h,e,rfl⟩),v,l,f.keep (oW s E w)⟩
def aB.sy(g:aB C s a w E)(d:s.row i=some r)(h:Rel C.P w E s.row v (.own i)):Rd w (lend s E) v (.list r.sz r.ds):=by
 rcases h r d with⟨H,rfl⟩|⟨b,p,H,rfl⟩
 ·rw [g.nX i r d H];exact .nil _
 ·rcases g.rows i r d with⟨e,_⟩|⟨t,f,o,e,_,q,n,m,l,_⟩
  ·rw [e]at H;cases H
  ·rw [e]at H;cases H
   exact Rd.nV n m l (λk j=>uu (g.sx d e j))
def Uy{b off:Nat}(h:lD w G b off d):Rd w G (.pointer (some ⟨b,off,none⟩)) (.ptr d):=by
 refine .ptr d b off (λj=>(w.cell? ⟨b,off+j,none⟩).getD undef) (λj H=>(h j H).1) (λj H=>?_) (λj H=>?_)
 ·obtain⟨_,v,a,_⟩:=h j H;rw [a];rfl
 ·obtain⟨_,v,a,e⟩:=h j H;rw [a];exact e
def Cv.ok(g:aB C s a w E)(h:Cv s.var s.row x d):∀v,v.oneCell'=true->Rel C.P w E s.row v x->Rd w (lend s E) v d:=by
 induction h with
 |pd d=>intro v n H;exact(aH.one H n).keep (oW s E w)
 |nil D=>intro v n H;have:=aH.aC H;subst this;exact .nil D
 |own id r h=>intro v n H;exact g.sy h H
 |clo f T U L O A M z=>
  intro v n H;simp only [Rel]at H;subst H;have e:((T.map λt=>Value.pointer (some ⟨E.vb t,0,none⟩)).toArray)=((T.map λt=>(E.vb t,0)).map λp=>Value.pointer (some ⟨p.1,p.2,none⟩)).toArray:=by simp [Function.comp_def]
  rw [e];refine ss (E:={E with G:=lend s E}) (by simp [L]) (λi Q j q=>?_);have m:i<T.length:=qk;obtain⟨o,K⟩:=A i m;have N:(T.map λt=>(E.vb t,0)).getD i (0,0)=(E.vb (T.getD i 0),0):=by simp [ag,m]
  obtain⟨u,l,k,b⟩:=g.Aj o (j:=j) qk;rw [N];exact⟨.inr (.inl ⟨_,_,o,rfl⟩),u,uu l,z i j m q u k b⟩
 |ptr t P d h K M z=>
  intro v n H;simp only [Rel]at H;subst H
  have J:∀j,j<d.width->∃u,w.cell? ⟨E.vb t,0+j,none⟩=some u/\Rd w (lend s E) u (d.cell j):=λj q=>by
   obtain⟨u,l,k,b⟩:=g.Aj h (j:=j) qk;exact⟨u,uu l,z j q u k b⟩
  exact Uy λj q=>⟨.inr (.inl ⟨t,P,h,rfl⟩),J j q⟩
 |unk x=>intro v n H;exact .unk v n
def aB.Uz(g:aB C s a w E){t:Nat}(h:s.var t=some cs)(k:d.width<=cs.length)(b:∀j,j<d.width->Cv s.var s.row (cs.getD j .dead) (d.cell j)):lD w (lend s E) (E.vb t) 0 d:=by
 intro j H;obtain⟨v,i,f,e⟩:=g.Aj h (j:=j) qk;exact⟨.inr (.inl ⟨t,cs,h,rfl⟩),v,uu i,(b j H).ok g v f e⟩
def qx.clo{F:List PD->PD->Prop}(l:Rd w G v (.clo f ds))(q:aF P f)(h:∀es r,F es r->aG P f (es.map .pd++ds.map λd=>.ref d 0) [r]):qx P w G v F:=by
 cases l with
 |clo _ _ bs J n Q H a=>
  refine⟨f,#[],_,rfl,q,λg D k t es r vals u s m=>?_⟩;have z:(vals++(bs.map λp=>Value.pointer (some ⟨p.1,p.2,none⟩)).toArray).size=(es.map SV.pd++ds.map λd=>SV.ref d 0).length:=by simp [s,n]
  have:=(h es r u).2 g D (vals++(bs.map λp=>Value.pointer (some ⟨p.1,p.2,none⟩)).toArray) t z (λi o=>by
   simp only [bd,al]at o
   by_cases c:i<es.length
   ·have E:(es.map SV.pd++ds.map λd=>SV.ref d 0).getD i .dead= .pd (es.getD i (.ak [])):=by
     simp [cv,c]
    have e:(vals++(bs.map λp=>Value.pointer (some ⟨p.1,p.2,none⟩)).toArray).getD i undef=vals.getD i undef:=by
     have x:i<vals.size:=qk;simp [aL,eN x]
    rw [E,e];exact m i c
   ·have C:i-es.length<ds.length:=qk
    have E:(es.map SV.pd++ds.map λd=>SV.ref d 0).getD i .dead= .ref (ds.getD (i-es.length) (.ak [])) 0:=by
     simp only [ag];rw [dj qz];simp [C]
    have A:i-es.length<bs.length:=qk
    have e:(vals++(bs.map λp=>Value.pointer (some ⟨p.1,p.2,none⟩)).toArray).getD i undef= .pointer (some ⟨(bs.getD (i-es.length) (0,0)).1,(bs.getD (i-es.length) (0,0)).2,none⟩):=by
     rw [aL,p7 qk,s];simp [A]
    rw [E,e];refine⟨_,_,rfl,lD.keep k (λj b=>⟨Q _ j C b,_,H _ j C b,a _ j C b⟩)⟩)
  simpa using this
def iR.keep{w:World}(k:Keeps w G w' G')(h:iR P w G v x):iR P w' G' v x:=by
 cases x with
 |dead=>trivial
 |pd d=>exact aH.keep k h
 |ref d off=>obtain⟨b,a,e,h⟩:=h;exact⟨b,a,e,h.keep k⟩
 |fn F=>exact qx.keep k h
 |_=>exact h.elim
def Co.ok(g:aB C s a w E){y:SV}(h:Co C.P s.var s.row x y l)(H:Rel C.P w E s.row v x):iR C.P w (if l then lend s E else E.G) v y:=by
 cases h with
 |dead=>trivial
 |pd d=>exact H
 |ref d o=>exact H
 |fn F=>exact H
 |nil A=>have:=aH.aC H;subst this;exact .nil A
 |own id r h=>exact g.sy h H
 |var t M d h m q=>exact⟨E.vb t,0,by simpa [Rel]using H,g.Uz h m q⟩
 |ptr t M d h m q=>simp only [Rel]at H;subst H;exact Uy (g.Uz h m q)
 |pref d=>obtain⟨b,u,rfl,p⟩:=H;exact Uy p
 |elem id i o r h hi=>
  obtain⟨b,N,J,rfl⟩:=H r h;exact⟨b,i*r.sz,rfl,g.sx h J hi⟩
 |func f F j h=>
  have:=aH.aC H;subst this;refine⟨f,#[],#[],rfl,j,λz O k K D r vals L G p=>?_⟩
  have:=(h D r L).2 z O vals K (uu G) (λi hi=>by
   simp only [al]at hi;have e:(D.map SV.pd).getD i .dead= .pd (D.getD i (.ak [])):=ym;rw [e];exact p i hi)
  simpa using this
 |clo f T D F n j h=>
  refine qx.clo (n.ok g v ?_ H) j h;simp only [Rel]at H;subst H;rfl
 |QG f D F j h=>exact qx.clo H j h
def iD.length{var:Nat->Option (List SV)}{row:Nat->Option Row}{s:List SV}(h:iD P var row xs s l):xs.length=s.length:=by
 induction h with
 |nil=>rfl
 |cons _ _ i=>simp [i]
def iD.refs{var:Nat->Option (List SV)}{row:Nat->Option Row}{s:List SV}(h:iD P var row xs s l)(ds:List PD):iD P var row (xs++ds.map λd=>.ref d 0) (s++ds.map λd=>.ref d 0) l:=by
 induction h with
 |nil=>induction ds with
  |nil=>exact .nil
  |cons d ds i=>exact .cons (b:=false) (c:=false) (.ref d 0) i
 |cons h _ i=>exact .cons h i
def iD.ok(g:aB C s a w E){e:List SV}(h:iD C.P s.var s.row xs e l)(m:vs.length=xs.length)(k:∀i,i<xs.length->Rel C.P w E s.row (vs.getD i undef) (xs.getD i .dead)):
  ∀i,i<e.length->iR C.P w (if l then lend s E else E.G) (vs.getD i undef) (e.getD i .dead):=by
 induction h generalizing vs with
 |nil=>intro i H;simp at H
 |cons h t n=>
  rename_i x y b xs e c
  cases vs with
  |nil=>simp at m
  |cons v vs=>
   have up:∀d,d=true->(b||c)=d\/True:=λ_ _=>.inr trivial
   have mono:∀d:Bool,(d=true->(b||c)=true)->Keeps w (if d then lend s E else E.G) w (if(b||c)then lend s E else E.G):=by
    intro d f
    cases d with
    |true=>rw [f rfl];exact Keeps.refl _ _
    |false=>cases(b||c)with
     |true=>exact oW s E w
     |false=>exact Keeps.refl _ _
   intro i H
   cases i with
   |zero=>exact(h.ok g (uu (k 0 qr))).keep (mono b (by intro h;simp [h]))
   |succ i=>
    have:=n (vs:=vs) (uu m) (λj o=>uu (k (j+1) (uu o))) i (uu H);exact iR.keep (mono c (by intro h;simp [h])) (uu this)
def cell_lt{b o:Nat}(h:w.cell? ⟨b,o,none⟩=some v):b<w.heap.size:=by
 unfold World.cell? at h
 split at h
 ·rename_i H;exact(bm.1 H).1
 ·cases h
def Rd.clip(h:Rd w G v d):Rd w (λb o=>G b o/\b<w.heap.size) v d:=by
 induction h with
 |raw v h=>exact .raw v h
 |nil z=>exact .nil z
 |empty z a=>exact .empty z a
 |list z D b off m s p x q Q H _ g=>exact .list z D b off m s p x q (λi j k e=>⟨Q i j k e,cell_lt (H i j k e)⟩) H g
 |clo f D bs s l Q H _ g=>exact .clo f D bs s l (λi j k e=>⟨Q i j k e,cell_lt (H i j k e)⟩) H g
 |mp K D r J C L E n u l A t _ g=>exact .mp K D r J C L ⟨E,(bm.1 n).1⟩ n u l A t g
 |ptr d b off s Q H _ g=>exact .ptr d b off s (λj e=>⟨Q j e,cell_lt (H j e)⟩) H g
 |unk v h=>exact .unk v h
def aH.clip(h:aH w G v d):aH w (λb o=>G b o/\b<w.heap.size) v d:=by
 cases d with
 |raw _=>exact Rd.clip h
 |list _ _=>exact Rd.clip h
 |clo _ _=>exact Rd.clip h
 |mp _ _=>exact Rd.clip h
 |ptr _=>exact Rd.clip h
 |unk=>exact Rd.clip h
 |ak D=>obtain⟨C,rfl,H,r⟩:=h;exact⟨C,rfl,H,λj a=>(r j a).clip⟩
def aH.plain(H:d.plain=true)(h:aH w G v d):aH w G' v d:=by
 cases d with
 |raw _=>cases h;exact .raw _ kf
 |list _ _=>simp [PD.plain]at H
 |clo _ _=>simp [PD.plain]at H
 |mp _ _=>simp [PD.plain]at H
 |ptr _=>simp [PD.plain]at H
 |unk=>cases h;exact .unk _ kf
 |ak D=>
  obtain⟨C,rfl,s,r⟩:=h;refine⟨C,rfl,s,λj hj=>?_⟩;have a:=r j hj;have b:=(aM.1 H) D[j] (am hj);have e:D.getD j (.ak [])=D[j]:=j5;rw [e]at a⊢;generalize D[j]=d at a b;generalize C.getD j undef=x at a
  cases d<;>simp at b
  ·cases a;exact .raw _ kf
  ·cases a;exact .unk _ kf
def behind(w w':World)(G:Pub):Pub:=λb o=>G b o\/(w.heap.size<=b/\b<w'.heap.size)
def aB.behind(g:aB C s a w E)(H:Below w.heap.size w w'):aB C s a w' {E with G:=au.behind w w' E.G}:=
 g.grow H _ (λ_ _ h=>.inl h) (λ_ _ h=>h)
def aB.X3(g:aB C s a w E)(H:C.dr=false)(b:Go.RowKit.Below w.heap.size w w'):aB C s a w' {E with G:=au.behind w w' E.G}:=
 g.Jt b (λe=>by rw [H]at e;cases e) (au.behind w w' E.G) (λ_ _ h=>.inl h) (λ_ _ h=>h)
def G6(m:l=true->plain rs=true)(n:l=false->∀b o,G.new w.heap.size b o/\b<w'.heap.size->G' b o)(h:oU w' (G.new w.heap.size) v rs):oU w' G' v rs:=by
 have one:∀d v,(l=true->d.plain=true)->aH w' (G.new w.heap.size) v d->aH w' G' v d:=by
  intro d v f g
  cases l with
  |true=>exact g.plain (f rfl)
  |false=>exact g.clip.keep (.same (n rfl))
 have a:∀d∈rs,l=true->d.plain=true:=λd f H=>(aM.1 (m H)) d f;unfold oU at*
 split at h
 ·rename_i d;exact one d v (a d qr) h
 ·rename_i k
  obtain⟨s,e,i,r⟩:=h;refine⟨s,e,i,λj hj=>one _ _ (a _ ?_) (r j hj)⟩;have:rs.getD j (.ak [])=rs[j]:=j5;rw [this];exact am hj
def Am{E':Env}{row:Nat->Option Row}(h:oU w' E'.G v rs):Rel P w' E' row v (eX rs):=by
 unfold eX
 split
 ·exact h
 ·trivial
 ·rename_i H a
  unfold oU at h
  split at h
  ·exact(H _ rfl).elim
  ·exact h
def Pq(g:aB C s a w E)(k:iD C.P s.var s.row xs args l)(p:aG C.P f args rs)(n:l=true->plain rs=true)
  {vals:Array Value}(j:vals.size=xs.length)(m:∀i,i<xs.length->Rel C.P w E s.row (vals.getD i undef) (xs.getD i .dead)):
  Calls C.P f vals w λe w'=>∃v E',e= .returned v/\aB C s a w' E'/\Rel C.P w' E' s.row v (eX rs):=by
 have hok:=iD.ok g k (vs:=vals.toList) (uu j) (λi hi=>by simpa [aL,ag]using m i hi);refine(p.2 w (if l then lend s E else E.G) vals ?_ (by rw [j,k.length]) (λi hi=>vf)).mono ?_
 ·cases l with
  |true=>exact⟨g.Po,g.tab.keep (oW s E w)⟩
  |false=>exact g.good
 ·rintro e w' ⟨v,rfl,r,q⟩
  refine⟨v,_,rfl,g.behind q,Am (G6 (l:=l) n (λH b o h=>?_) r)⟩;subst H;rcases h.1 with d|d
  ·exact .inl d
  ·exact .inr ⟨d,h.2⟩
def Ls(g:aB C s a w E)(r:C.dr=false)(k:iD C.P s.var s.row xs args l)(q:bg C.P f args rs)(p:l=true->plain rs=true)
  {vals:Array Value}(j:vals.size=xs.length)(m:∀i,i<xs.length->Rel C.P w E s.row (vals.getD i undef) (xs.getD i .dead)):
  Calls C.P f vals w λe w'=>∃v E',e= .returned v/\aB C s a w' E'/\Rel C.P w' E' s.row v (eX rs):=by
 have hok:=iD.ok g k (vs:=vals.toList) (uu j) (λi hi=>by simpa [aL,ag]using m i hi);refine(q.2 w (if l then lend s E else E.G) vals ?_ (by rw [j,k.length]) (λi hi=>vf)).mono ?_
 ·cases l with
  |true=>exact⟨g.Po,g.tab.keep (oW s E w)⟩
  |false=>exact g.good
 ·rintro e w' ⟨v,rfl,n,t⟩
  refine⟨v,_,rfl,g.X3 r t,Am (G6 (l:=l) p (λH b o h=>?_) n)⟩;subst H;rcases h.1 with d|d
  ·exact .inl d
  ·exact .inr ⟨d,h.2⟩
end
def SV.unbox:SV->SV
 | .box _=>.dead
 |v=>v
def SV.strip:SV->SV
 | .gd _ v=>v.unbox
 |v=>v
def iW:Value->SV
 | .agg C=>if C.toList.all eb then .pd (.ak (C.toList.map .raw))else .dead
 | .tuple _=>.dead
 |v=>.pd (.raw v)
def aO(s:St):Operand->SV
 | .tmp t=>(s.get t).unbox
 | .const v=>iW v
 | .func f=>.pd (.raw (.func (.func f) #[] #[]))
 | .global _=>.dead
def yI(s:St)(x:Operand):SV:=(aO s x).strip
def qF(g:Bool):List SV->Prop
 | []=>True
 | .gd c _::l=>(g=true->c=true)/\qF g l
 |_::l=>qF g l
def oZ:List SV->Option (List PD)
 | []=>some []
 | .pd d::l=>(oZ l).map (d :: ·)
 |_=>none
def cZ:TypeDesc->Value->Bool
 | .int k,.int K _=>k==K
 | .string,.string _=>true
 |_,_=>false
def rU(P:Program)(e:TypeId)(t:TypeDesc)(key:Value)(ks:List Value)(ds:List PD):Bool->PD->Prop
 |true,d=>cZ t key=true/\(∀k∈ks,cZ t k=true)/\ks.Nodup/\∃i,i<ks.length/\ks.getD i undef=key/\ds.getD i (.ak [])=d
 |false,d=>cZ t key=true/\(∀k∈ks,cZ t k=true/\k≠key)/\Ey P e=some d
inductive Y(dr:Bool)(P:Program)(var:Nat->Option (List SV))(row:Nat->Option Row)(ρ:Operand->SV)(o:Oper):SV->Prop
 |op (vc:Prop) (v:SV) (h:ay P ρ var row o.op=some (vc,v)) (aS:vc):Y dr P var row ρ o v.unbox
 |call (f:FuncId) (xs:Array Operand) (ts:Array TypeId) (args:List SV) (rs:List PD) (l:Bool) (ho:o.op= .call ⟨.value (.func f),xs,ts⟩) (hc:iD P var row (xs.toList.map ρ) args l)
   (hf:aG P f args rs) (hl:l=true->plain rs=true):Y dr P var row ρ o (eX rs)
 |o7 (f:FuncId) (xs:Array Operand) (ts:Array TypeId) (args:List SV) (rs:List PD) (l:Bool) (hdr:dr=false) (ho:o.op= .call ⟨.value (.func f),xs,ts⟩) (hc:iD P var row (xs.toList.map ρ) args l)
   (hf:bg P f args rs) (hl:l=true->plain rs=true):Y dr P var row ρ o (eX rs)
 |kN (t:Nat) (xs:Array Operand) (ts:Array TypeId) (F:List PD->PD->Prop) (ds:List PD) (r:PD) (ho:o.op= .call ⟨.value (.tmp t),xs,ts⟩) (ht:ρ (.tmp t)= .fn F)
   (hd:oZ (xs.toList.map ρ)=some ds) (hF:F ds r):Y dr P var row ρ o (.pd r)
 |iE (t:Nat) (f:FuncId) (xs:Array Operand) (ts:Array TypeId) (args:List SV) (rs:List PD) (l:Bool) (ho:o.op= .call ⟨.value (.tmp t),xs,ts⟩) (ht:ρ (.tmp t)= .pd (.raw (.func (.func f) #[] #[])))
   (hc:iD P var row (xs.toList.map ρ) args l) (hf:aG P f args rs) (hl:l=true->plain rs=true):Y dr P var row ρ o (eX rs)
 |uK (t:Nat) (f:FuncId) (xs:Array Operand) (ts:Array TypeId) (args:List SV) (rs:List PD) (l:Bool) (hdr:dr=false) (ho:o.op= .call ⟨.value (.tmp t),xs,ts⟩) (ht:ρ (.tmp t)= .pd (.raw (.func (.func f) #[] #[])))
   (hc:iD P var row (xs.toList.map ρ) args l) (hf:bg P f args rs) (hl:l=true->plain rs=true):Y dr P var row ρ o (eX rs)
 |nY (t:Nat) (f:FuncId) (ds:List PD) (xs:Array Operand) (ts:Array TypeId) (args:List SV) (rs:List PD) (l:Bool) (ho:o.op= .call ⟨.value (.tmp t),xs,ts⟩) (ht:ρ (.tmp t)= .pd (.clo f ds))
   (hc:iD P var row (xs.toList.map ρ) args l) (hf:aG P f (args++ds.map λd=>.ref d 0) rs) (hl:l=true->plain rs=true):Y dr P var row ρ o (eX rs)
 |look (t:TypeId) (x k:Operand) (ok:Bool) (ks:List Value) (ds:List PD) (key:Value) (kt e:TypeId) (td:TypeDesc) (d:PD) (ho:o.op= .lookup t x k ok) (hx:ρ x= .pd (.mp ks ds)) (hk:ρ k= .pd (.raw key)) (ht:pR P t=some (kt,td,e))
   (fd:Bool) (h:rU P e td key ks ds fd d):Y dr P var row ρ o (if ok then .tpl [d,.raw (.bool fd)]else .pd d)
 |slice (t e:TypeId) (n sz:Nat) (parts:Array (Nat×Operand)) (ds:List PD) (ho:o.op= .buildSlice t n parts) (he:eu P t=some e) (hz:aP P e=sz) (h0:sz≠0) (hn:n*sz<=16777216)
   (hp:(parts.toList.map (·.1))=aw n) (hd:oZ (parts.toList.map λp=>ρ p.2)=some ds) (hw:∀i,i<n->(ds.getD i (.ak [])).width=sz) (hzero:(bG P e).isSome=true):Y dr P var row ρ o (.pd (.list sz ds))
 |alloc (t:TypeId) (zs:List Value) (ho:o.op= .alloc t) (hz:bG P t=some zs) (h1:zs.all eb=true):Y dr P var row ρ o (.box zs)
section
variable {C:Cx}{s:St}{a:Act}{w:World}{E:Env}
def Rel.unbox{row:Nat->Option Row}(h:Rel P w E row v x):Rel P w E row v x.unbox:=by
 cases x<;>first|exact h|trivial
def qM(x:SV)(cs:List Value):x.unbox≠.box cs:=by cases x<;>simp [SV.unbox]
def Nq{row:Nat->Option Row}(v:Value):Rel P w E row v (iW v):=by
 cases v<;>first
  |exact .raw _ rfl
  |trivial
  |skip
 rename_i C;simp only [iW]
 split
 ·rename_i h
  refine⟨C,rfl,qr,λj hj=>?_⟩;simp only [al,cb]at hj;have a:C.getD j undef=C[j]:=by simp [bc,hj]
  have e:(C.toList.map PD.raw).getD j (.ak [])= .raw C[j]:=j5;rw [a,e];exact .raw _ ((aM.1 h) _ qr)
 ·trivial
def aT(g:aB C s a w E)(x:Operand):Rel C.P w E s.row (a.eval x) (aO s x):=by
 cases x with
 |tmp t=>exact(g.slots t).unbox
 |const v=>exact Nq v
 |global _=>trivial
 |func f=>exact .raw _ rfl
def X4{g:Bool}:∀{l:List SV},qF g l->∀c v,SV.gd c v∈l->g=true->c=true
 | [],_,c,v,h,_=>xy
 |x::l,H,c,v,h,t=>by
  rcases b8.1 h with a|a
  ·subst a;exact H.1 t
  ·have:qF g l:=by cases x<;>first|exact H|exact H.2
   exact X4 this c v a t
def s8(g:aB C s a w E){o:Array Operand}(i:b=true)(e:qF b (o.toList.map (aO s))):∀x∈o,Rel C.P w E s.row (a.eval x) (yI s x):=by
 intro x d;have h:=aT g x;have H:aO s x∈o.toList.map (aO s):=aq.2 ⟨x,ka.2 d,rfl⟩;unfold yI SV.strip
 split
 ·rename_i c v f
  rw [f]at h H;exact(h (X4 e c v H i)).unbox
 ·exact h
def lF:∀{l:List SV} {ds:List PD},oZ l=some ds->ds.length=l.length
 | [],ds,h=>by simp only [oZ,bo]at h;subst h;rfl
 |x::l,ds,h=>by
  cases x<;>simp only [oZ,reduceCtorEq]at h
  cases H:oZ l with
  |none=>simp [H]at h
  |some r=>simp [H]at h;subst h;simp [lF H]
def BM:∀{l:List SV} {ds:List PD},oZ l=some ds->∀j,j<l.length->l.getD j .dead= .pd (ds.getD j (.ak []))
 | [],_,_,j,hj=>vq
 |x::l,ds,h,j,hj=>by
  cases x<;>simp only [oZ,reduceCtorEq]at h
  cases H:oZ l with
  |none=>simp [H]at h
  |some r=>
   simp [H]at h;subst h
   cases j with
   |zero=>rfl
   |succ j=>simpa using BM H j (uu hj)
def bU(s:St)(o:Oper):Prop:=∀t,o.dst=some t->t<s.n
def aB.eY(g:aB C s a w E)(d:bU s o){v:SV}(h:Rel C.P w E s.row u v)(H:∀cs,v≠.box cs):aB C (s.put o.dst v) (a.put o.dst u) w E:=by
 cases b:o.dst with
 |none=>exact g
 |some t=>exact g.put (d t b) h H
def qN(rs:List PD)(cs:List Value):eX rs≠.box cs:=by unfold eX;split<;>simp
end
section
variable {C:Cx}{s:St}{a:Act}{w:World}{E:Env}{P:Program}
def EJ{r:Nat}{o:Obj}(H:w.heap[r]? =some o)(h:∀c e f,o≠.cells c e f):(getObj r).run P w= .ok o w:=by
 cases o<;>first|exact absurd rfl (h _ _ _)|simp [getObj,Sem.run,H]
def Lu{r:Nat}{o:Obj}(O:Obj)(H:w.heap[r]? =some o)(h:∀c e f,o≠.cells c e f):(setObj r O).run P w= .ok () {w with heap:=w.heap.setIfInBounds r O}:=by
 cases o<;>first|exact absurd rfl (h _ _ _)|simp [setObj,Sem.run,H]
def lG{r:Nat}(h:w.heap[r]? =some (.map es clock)):(getObj r).run P w= .ok (.map es clock) w:=EJ h x6
def Nr{t:TypeDesc}{k x:Value}(h:cZ t k=true)(H:cZ t x=true):∃b,sj t k x=some b/\(b=true↔k=x):=by
 unfold cZ at h
 split at h
 ·rename_i q Q n
  simp only [cy]at h;subst h
  cases x<;>simp [cZ]at H
  subst H;exact⟨_,by simp only [sj,a7];rfl,qr⟩
 ·cases x<;>simp [cZ]at H
  rename_i p q;refine⟨_,rfl,?_⟩;rw [beq_toListBytes,ByteArray.toList_eq,ByteArray.toList_eq];obtain⟨⟨p⟩⟩:=p;obtain⟨⟨q⟩⟩:=q;simp
 ·cases h
def Ap{t:TypeDesc}{key:Value}(H:cZ t key=true):∀(es:List MapEntry) (i:Nat),(∀e∈es,cZ t e.key=true/\e.key≠key)->iI t key es i=some none
 | [],_,_=>rfl
 |e::es,i,h=>by
  obtain⟨b,d,a⟩:=Nr H (h e qr).1;have:b=false:=by cases b with|false=>rfl|true=>exact absurd (a.1 rfl).symm (h e qr).2
  subst this;simp only [iI,d];exact Ap H es (i+1) (λx hx=>h x ub)
def vX{t:TypeDesc}{key:Value}(k:cZ t key=true):∀(es:List MapEntry) (i n:Nat),(∀e∈es,cZ t e.key=true)->(es.map (·.key)).Nodup->(hn:n<es.length)->es[n].key=key->iI t key es i=some (some (i+n,es[n].val))
 | [],_,n,_,_,hn,_=>by simp at hn
 |e::es,i,n,h,d,hn,f=>by
  obtain⟨b,j,g⟩:=Nr k (h e qr);simp only [ap,dE]at d
  cases n with
  |zero=>
   have:b=true:=g.2 (uu f.symm);subst this;simp [iI,j]
  |succ n=>
   have a:n<es.length:=uu hn;have H:es[n].key=key:=uu f
   have:b=false:=by
    cases b with
    |false=>rfl
    |true=>exact(d.1 (by rw [<-g.1 rfl,<-H];exact aq.2 ⟨es[n],am a,rfl⟩)).elim
   subst this;simp only [iI,j];rw [vX k es (i+1) n (λx hx=>h x ub) d.2 a H];simp [et,lO 1 n]
def run_checkKey{t:TypeDesc}{k:TypeId}{key:Value}(H:P.underlying k=some t)(h:cZ t key=true)(b:Bool):(l8 b 10000 k key).run P w= .ok () w:=by
 unfold cZ at h
 split at h
 ·show(l8 b (9999+1) k _).run P w=_
  rw [l8];simp only [az,bq H,a8,aD]
 ·show(l8 b (9999+1) k _).run P w=_
  rw [l8];simp only [az,bq H,a8,aD]
 ·cases h
def run_findKey{t:TypeDesc}{k:TypeId}{key:Value}{es:List MapEntry}{r:Option (Nat×Value)}(H:P.underlying k=some t)(h:iI t key es 0=some r):(sk k key es).run P w= .ok r w:=by
 simp [sk,bq H,h]
def G7{K:TypeId}{T:TypeDesc}{r:Nat}{key:Value}{ks:List Value}{fd:Bool}(J:pR P t=some (K,T,e))(s:w.heap[r]? =some (.map es clock))
  (M:es.size=ks.length)(p:∀i,i<ks.length->(es.getD i default).key=ks.getD i undef)(D:∀i,i<ks.length->aH w G (es.getD i default).val (ds.getD i (.ak [])))(h:rU P e T key ks ds fd d)(ok:Bool):
  ∃u,(rh t (.map (some r)) key ok).run P w= .ok (if ok then .tuple #[u,.bool fd]else u) w/\aH w G u d:=by
 obtain⟨o,A⟩:=Ac J
 have H:es.toList.map (·.key)=ks:=by
  apply mI;intro i
  by_cases c:i<ks.length
  ·have C:i<es.size:=qk
   have:=p i c;simp only [bc,C,dc,je,ag,ca c,bX]at this;simp [C,c,this]
  ·rw [dl qz,dl qk]
 cases fd with
 |true=>
  obtain⟨a,b,k,i,q,m,hid⟩:=h;have f:i<es.size:=qk;have l:=D i q;have E:es.getD i default=es[i]:=by simp [bc,f]
  have n:=vX a es.toList 0 i (λx j=>b _ (by rw [<-H];exact aq.2 ⟨x,j,rfl⟩)) (by rw [H];exact k) (uu f) (by have:=p i q;rw [E,m]at this;simpa using this);refine⟨es[i].val,?_,by rw [<-hid,<-E];exact l⟩;simp only [rh,az,bq o,a8,lG s,aD,run_checkKey A a,run_findKey A n];simp
 |false=>
  obtain⟨a,b,v⟩:=h;obtain⟨z,L,g⟩:=B8 (P:=P) (w:=w) (G:=G) v;have n:=Ap a es.toList 0 (λx j=>b _ (by rw [<-H];exact aq.2 ⟨x,j,rfl⟩));refine⟨z,?_,g⟩;simp only [rh,az,bq o,a8,lG s,aD,run_checkKey A a,run_findKey A n,L]
end
section
variable {C:Cx}{s:St}{a:Act}{w:World}{E:Env}{P:Program}
def flat(vs:List Value):List Value:=vs.flatMap λv=>v.cells.toList
def flat_get{sz:Nat}:∀{vs:List Value},(∀v∈vs,v.cells.size=sz)->∀i j,i<vs.length->j<sz->(flat vs)[i*sz+j]? =(vs.getD i undef).cells[j]?
 | [],_,i,j,hi,_=>wh
 |v::vs,h,i,j,hi,d=>by
  have H:=h v (bk ..);simp only [flat,fI]
  cases i with
  |zero=>
   rw [Nat.zero_mul,cx,cv qz];simp
  |succ i=>
   rw [dj (by simp [H,eo];omega)];have a:=flat_get (vs:=vs) (λx b=>h x (b3 _ b)) i j (uu hi) d;have e:(i+1)*sz+j-v.cells.toList.length=i*sz+j:=by simp [H,eo];omega
   rw [e];simpa [flat]using a
def fill_flat{sz:Nat}:∀(vs:List Value) (k:Nat) (cs:Array Value),(∀v∈vs,v.cells.size=sz)->(k+vs.length)*sz<=cs.size->
  ∃cells,nn (λi=>some (i*sz,sz)) cs ((List.range' k vs.length).zip vs)=some cells/\cells.toList=cs.toList.take (k*sz)++flat vs++cs.toList.drop ((k+vs.length)*sz)
 | [],k,cs,_,_=>⟨cs,by simp [nn],by simp [flat]⟩
 |v::vs,k,cs,h,e=>by
  have b:=h v (bk ..);simp only [an]at e;have o:(k+(vs.length+1))*sz=k*sz+sz+vs.length*sz:=by rw [d7,eo];omega
  have a:=KC v.cells.toList cs (k*sz) (by simp [b];omega)
  have H:(v.cells.zipIdx.foldl (λcs (p:Value×Nat)=>cs.setIfInBounds (k*sz+p.2) p.1) cs)=((v.cells.toList.zipIdx).foldl (λcs (p:Value×Nat)=>cs.setIfInBounds (k*sz+p.2) p.1) cs):=by
   rw [<-Array.foldl_toList];simp
  generalize j:(v.cells.zipIdx.foldl (λcs (p:Value×Nat)=>cs.setIfInBounds (k*sz+p.2) p.1) cs)=c1 at H;rw [<-H]at a
  have n:c1.size=cs.size:=by
   have:=congrArg List.length a;simp [b]at this;omega
  obtain⟨cells,g,t⟩:=fill_flat vs (k+1) c1 (λx f=>h x (b3 _ f)) (by rw [n,d7,d7];omega);refine⟨cells,?_,?_⟩
  ·simp only [an,List.range'_succ,List.zip_cons_cons,nn]
   have d:¬((decide (v.cells.size≠sz)||decide (k*sz+v.cells.size>cs.size))=true):=by simp [b];omega
   rw [ae d];rw [j];exact g
  ·rw [t,a]
   have l:(cs.toList.take (k*sz)++v.cells.toList).length=(k+1)*sz:=by simp [b,eo];omega
   rw [Bn qk,bi qk];have m:(k+1+vs.length)*sz=(cs.toList.take (k*sz)++v.cells.toList).length+vs.length*sz:=by rw [l,d7]
   rw [m,List.drop_append,List.drop_drop]
   have E:k*sz+v.cells.toList.length+((cs.toList.take (k*sz)++v.cells.toList).length+vs.length*sz-(cs.toList.take (k*sz)++v.cells.toList).length)=(k+(v::vs).length)*sz:=by
    simp only [cb,b,an];omega
   rw [E,cC qk];simp [flat,cD]
def aH.zD(h:aH w G v d):v.cells.size=d.width:=by
 have:=(aH.cells h).1;rw [PD.bD]at this;simpa using this
def aH.HO(h:aH w G v d)(hj:j<d.width):∃u,v.cells[j]? =some u/\Rd w G u (d.cell j):=by
 have b:=aH.cells h;have a:=b.2 j ww;have s:=aH.zD h;have H:j<v.cells.size:=qk;refine⟨v.cells[j],by simp [H],?_⟩;rw [PD.jy d j hj]at a;simpa [H]using a
def Dm{b:Nat}{cells:List Value}(k:Keeps w G w' G)(t:vs.length=ds.length)(r:∀i,i<ds.length->aH w G (vs.getD i undef) (ds.getD i (.ak [])))
  (d:∀i,i<ds.length->(ds.getD i (.ak [])).width=sz)(l:cells=flat vs)(m:w'.heap[b]? =some (.cells cells.toArray e (0,0)))(G':Pub)(p:∀b o,G b o->G' b o)(Q:∀o,G' b o)(i:Nat)(hi:i<ds.length):
  lD w' G' b (0+i*sz) (ds.getD i (.ak [])):=by
 have h:∀v∈vs,v.cells.size=sz:=by
  intro v f;obtain⟨n,g,rfl⟩:=bN f;have:=(r n qk).zD;rw [d n qk]at this;simpa [g]using this
 intro j a;have H:j<sz:=by rw [d i hi]at a;exact a
 obtain⟨u,s,q⟩:=(r i hi).HO a;refine⟨Q _,u,?_,q.keep (k.trans (.same p))⟩;rw [cell_of_row w' b _ _ e _ m];have:=flat_get h i j qk H;rw [cx];simp only [gc,l];rw [this,s]
def run_buildSlice{n:Nat}{parts:Array (Nat×Value)}(q:eu P t=some e)(f:aP P e=sz)(r:sz≠0)(m:n*sz<=16777216)(h:(bG P e).isSome=true)
  (p:parts.toList=(aw n).zip vs)(l:vs.length=n)(k:∀v∈vs,v.cells.size=sz):
  (sf t n parts).run P w= .ok (.slice (some ⟨w.heap.size,0,none⟩) n n) (w.alloc (.cells (flat vs).toArray e)):=by
 obtain⟨Z,s⟩:=dm.1 h;obtain⟨z,G,_⟩:=yH (P:=P) (w:=w) s;have a:(sizeOf e).run P w= .ok sz w:=by rw [<-f];exact jf qk
 have g:¬(n*sz>2 ^ 24):=uu m
 have T:∀b:Array Value,b.size=n*sz->nn (λi=>some (i*sz,sz)) b parts.toList=some (flat vs).toArray:=by
  intro b d;obtain⟨cells,o,j⟩:=fill_flat (sz:=sz) vs 0 b k (by rw [cx,l];omega);rw [p,<-l,List.range_eq_range',o]
  congr 1
  apply hZ;rw [j];have:b.toList.drop ((0+vs.length)*sz)=[]:=cC (by simp [d,l]);rw [this];simp
 simp only [sf,az,bq (iJ q),a8,a];rw [ae g]
 by_cases H:n*sz=0
 ·rw [af H]
  simp only [az,aD,a8];rw [T _ qr];rfl
 ·rw [ae H]
  simp only [az,aD,a8,G];rw [T _ qr];rfl
def fJ(e:aF P f)(ρ:Operand->Value)(o:Oper)(a:Operand)(xs:Array Operand)(t:Array TypeId)(cap:Array Value)(H:o.op= .call ⟨.value a,xs,t⟩)(first:Array Value)(h:ρ a= .func (.func f) first cap):
  (execOp ρ o).run P w= .ok (.enter f (first++xs.map ρ++cap)) w:=by
 unfold execOp;simp only [H,resolve,h,Deferred.ofValue,az,aD,a8,invoke];exact e _ w
def Y.ok(g:aB C s a w E){v:SV}(A:∀x∈o.op.operands,Rel C.P w E s.row (a.eval x) (ρ x))(hd:bU s o)(h:Y C.dr C.P s.var s.row ρ o v){K:Act->World->Prop}{Q:Exit->Act->World->Prop}
  (hK:∀u w' E',aB C (s.put o.dst v) (a.put o.dst u) w' E'->K (a.put o.dst u) w'):o.wp C.P a w K Q:=by
 have D:∀(f:FuncId) (vals:Array Value),(execOp a.eval o).run C.P w= .ok (.enter f vals) w->∀x:SV,(∀cs,x≠.box cs)->v=x->
   (Calls C.P f vals w λe w'=>∃u E',e= .returned u/\aB C s a w' E'/\Rel C.P w' E' s.row u x)->o.wp C.P a w K Q:=by
  intro f vals H x hx hvx hc;subst hvx;unfold b5;rw [H,Oper.upon_enter];refine hc.mono ?_;rintro e w' ⟨u,E',rfl,g',hr⟩;exact hK u w' E' (g'.eY hd hr hx)
 cases h with
 |op vc x h aS=>
  obtain⟨u,H,hr⟩:=Y0 g A h aS;unfold b5;rw [H,ci];exact hK u w E (g.eY hd hr.unbox (qM x))
 |call f X ts args U l ho hc Z hl=>
  have H:=fJ (P:=C.P) (w:=w) Z.1 a.eval o (.func f) X ts #[] ho #[] rfl;refine D f _ H (eX U) (qN U) rfl ?_;refine Pq g hc Z hl qr (λi q=>?_);simp only [al,cb]at q;have:=A X[i] kp;simpa [q]using this
 |o7 f X ts args U l hdr ho hc Z hl=>
  have H:=fJ (P:=C.P) (w:=w) Z.1 a.eval o (.func f) X ts #[] ho #[] rfl;refine D f _ H (eX U) (qN U) rfl ?_;refine Ls g hdr hc Z hl qr (λi q=>?_);simp only [al,cb]at q;have:=A X[i] kp;simpa [q]using this
 |iE t f X ts args U l ho ht hc Z hl=>
  have L:=A (.tmp t) kp;rw [ht]at L;have H:=fJ (P:=C.P) (w:=w) Z.1 a.eval o (.tmp t) X ts #[] ho #[] (aH.aC L);refine D f _ H (eX U) (qN U) rfl ?_;refine Pq g hc Z hl qr (λi q=>?_);simp only [al,cb]at q;have:=A X[i] kp;simpa [q]using this
 |uK t f X ts args U l hdr ho ht hc Z hl=>
  have L:=A (.tmp t) kp;rw [ht]at L;have H:=fJ (P:=C.P) (w:=w) Z.1 a.eval o (.tmp t) X ts #[] ho #[] (aH.aC L);refine D f _ H (eX U) (qN U) rfl ?_;refine Ls g hdr hc Z hl qr (λi q=>?_);simp only [al,cb]at q;have:=A X[i] kp;simpa [q]using this
 |kN t X ts F O r ho ht hds hF=>
  have L:=A (.tmp t) kp;rw [ht]at L;obtain⟨f,first,caps,hv,he,hc⟩:=L;have H:=fJ (P:=C.P) (w:=w) he a.eval o (.tmp t) X ts caps ho first hv
  have M:=lF hds;simp only [al,cb]at M;refine D f _ H (.pd r) qr rfl ?_;refine(hc w E.G (Keeps.refl _ _) g.good O r (X.map a.eval) hF (by simp [M]) (λj hj=>?_)).mono ?_
  ·have hj2:j<X.size:=qk
   have N:=A X[j] kp;have h2:=BM hds j (uu hj2);have h3:ρ X[j]= .pd (O.getD j (.ak [])):=by simpa [hj2]using h2
   rw [h3]at N;simpa [hj2,Rel]using N
  ·rintro e w' ⟨u,rfl,hr,hb⟩
   refine⟨u,_,rfl,g.behind hb,Am (rs:=[r]) (G6 (l:=false) qr (λ_ b o h=>?_) hr)⟩;rcases h.1 with N|N
   ·exact .inl N
   ·exact .inr ⟨N,h.2⟩
 |nY t f O X ts args U l ho ht hc Z hl=>
  have L:=A (.tmp t) kp;rw [ht]at L;generalize hev:a.eval (.tmp t)=fv at L
  cases L with
  |clo _ _ bs vs hbl fQ hcell J=>
   have H:=fJ (P:=C.P) (w:=w) Z.1 a.eval o (.tmp t) X ts _ ho #[] hev;refine D f _ H (eX U) (qN U) rfl ?_;refine Pq g (hc.refs O) Z hl (by simp [hbl]) (λi q=>?_);simp only [bd,al,cb]at q
   by_cases c:i<X.size
   ·have N:=A X[i] kp
    have e1:(#[]++X.map a.eval++(bs.map λ(p:Nat×Nat)=>Value.pointer (some ⟨p.1,p.2,none⟩)).toArray).getD i undef=a.eval X[i]:=by
     rw [aL,eN (uu c)];simp [c]
    have e2:(X.toList.map ρ++O.map λd=>SV.ref d 0).getD i .dead=ρ X[i]:=by
     rw [ag,cv (uu c)];simp [c]
    rw [e1,e2];exact N
   ·have c2:i-X.size<O.length:=qk
    have c3:i-X.size<bs.length:=qk
    have e1:(#[]++X.map a.eval++(bs.map λ(p:Nat×Nat)=>Value.pointer (some ⟨p.1,p.2,none⟩)).toArray).getD i undef= .pointer (some ⟨(bs.getD (i-X.size) (0,0)).1,(bs.getD (i-X.size) (0,0)).2,none⟩):=by
     rw [aL,p7 qz];simp [c3]
    have e2:(X.toList.map ρ++O.map λd=>SV.ref d 0).getD i .dead= .ref (O.getD (i-X.size) (.ak [])) 0:=by
     rw [ag,dj qz];simp [c2]
    rw [e1,e2];exact⟨_,_,rfl,λj hj=>⟨fQ _ j c2 hj,_,hcell _ j c2 hj,J _ j c2 hj⟩⟩
 |look t x k ok ks O key kt e td d ho hx hk ht fd h=>
  have N:=A x (by simp [ho,bR]);have h2:=A k (by simp [ho,bR]);rw [hx]at N;rw [hk]at h2;have h2:=aH.aC h2;generalize hev:a.eval x=mv at N
  cases N with
  |mp _ _ r es clock cs hg hb hs hl hkk hv J=>
   obtain⟨u,hu1,hu2⟩:=G7 (P:=C.P) (w:=w) (G:=E.G) (ds:=O) ht hb hs hkk (λi q=>by
    obtain⟨hv1,hv2⟩:=hv i q;have J:=J i;rw [hv1];generalize O.getD i (.ak [])=dd at hv2 J
    cases dd with
    |ak l=>exact⟨cs i,rfl,hv2 rfl,λj hj=>J j q hj⟩
    |raw _=>exact J 0 q kw
    |list _ _=>exact J 0 q kw
    |clo _ _=>exact J 0 q kw
    |mp _ _=>exact J 0 q kw
    |ptr _=>exact J 0 q kw
    |unk=>exact J 0 q kw) h ok
   unfold b5 execOp;simp only [ho,hev,h2,az,hu1,a8,aD,ci];refine hK _ _ E (g.eY hd ?_ (by cases ok<;>simp))
   cases ok with
   |false=>exact hu2
   |true=>
    refine⟨#[u,.bool fd],rfl,rfl,λj hj=>?_⟩
    match j,hj with
    |0,_=>exact hu2
    |1,_=>exact .raw _ rfl
 |slice t e n sz m O ho he hz h0 hn hp hds hw hzero=>
  have M:=lF hds;have hpl:m.toList.length=n:=by have:=congrArg List.length hp;simpa using this
  simp only [al]at M
  have hrel:∀i,i<O.length->aH w E.G ((m.toList.map λp=>a.eval p.2).getD i undef) (O.getD i (.ak [])):=by
   intro i q;have hi2:i<m.toList.length:=qk
   have N:=A (m.toList[i]).2 (by
    simp only [ho,bR,nl,aq];exact⟨m.toList[i],am hi2,rfl⟩)
   have h2:=BM hds i (uu hi2)
   have h3:ρ (m.toList[i]).2= .pd (O.getD i (.ak [])):=by
    rw [<-h2];simp only [ag,cU,ca hi2,ef,bX]
   rw [h3]at N
   have h4:(m.toList.map λp=>a.eval p.2).getD i undef=a.eval (m.toList[i]).2:=by
    simp only [ag,cU,ca hi2,ef,bX]
   rw [h4];exact N
  have ar2:(m.map λ(p:Nat×Operand)=>(p.1,a.eval p.2)).toList=(aw n).zip (m.toList.map λp=>a.eval p.2):=by
   rw [<-hp,List.zip_map'];simp
  have PM:∀v∈(m.toList.map λp=>a.eval p.2),v.cells.size=sz:=by
   intro v hv;obtain⟨i,q,rfl⟩:=bN hv;have hi2:i<O.length:=by simpa [M]using q
   have N:=(hrel i hi2).zD;rw [hw i qk,ag,ca q]at N;exact N
  have H:=run_buildSlice (P:=C.P) (w:=w) he hz h0 hn hzero ar2 (uu hpl) PM;unfold b5 execOp;simp only [ho,az,H,a8,aD,ci]
  let G':Pub:=λb o=>E.G b o\/b=w.heap.size
  have g':=g.grow (w':=w.alloc (.cells (flat (m.toList.map λp=>a.eval p.2)).toArray e)) (bF w _) G' (λ_ _ h=>.inl h) (λb o h=>by
   rcases h with h|h
   ·exact .inl h
   ·exact .inr ⟨qk,qz⟩)
  refine hK _ _ _ (g'.eY hd ?_ qr);have hk:Keeps w E.G (w.alloc (.cells (flat (m.toList.map λp=>a.eval p.2)).toArray e)) E.G:=Keeps.of_below g.gw (bF w _) (λ_ _ h=>h);have hdl:O.length=n:=qk
  have:Rd (w.alloc (.cells (flat (m.toList.map λp=>a.eval p.2)).toArray e)) G' (.slice (some ⟨w.heap.size,0,none⟩) O.length n) (.list sz O):=by
   refine Rd.nV qk ?_ (λi q=>hw i qk) (λi q=>?_)
   ·have:n<=n*sz:=Nat.le_mul_of_pos_right _ (qD h0)
    simp only [maxLen];omega
   ·exact Dm hk (by simp [M]) hrel (λi q=>hw i qk) rfl (heap_alloc_new w _) G' (λ_ _ h=>.inl h) (λ_=>.inr rfl) i q
  rw [hdl]at this;exact this
 |alloc t zs ho hz N=>
  obtain⟨z,G5,hzc⟩:=yH (P:=C.P) (w:=w) hz;have hcells:z.cells=zs.toArray:=by rw [<-hzc]
  unfold b5 execOp;simp only [ho,az,Instr.alloc,G5,a8,aD,newVar,newRow,run_newObj,ci,hcells]
  cases T:o.dst with
  |none=>
   have g':=g.grow (w':=w.alloc (.cells zs.toArray t)) (bF w _) E.G (λ_ _ h=>h) (λ_ _ h=>.inl h);have:=hK (.pointer (some ⟨w.heap.size,0,none⟩)) (w.alloc (.cells zs.toArray t)) {E with G:=E.G} (by rw [T];exact g');rw [T]at this;exact this
  |some d=>
   have g':=g.box (hd d T) zs (λv hv=>(aM.1 N) v hv) t;have:=hK (.pointer (some ⟨w.heap.size,0,none⟩)) (w.alloc (.cells zs.toArray t)) _ (by rw [T];exact g');rw [T]at this;exact this
end
section
variable {C:Cx}{s:St}{a:Act}{w w':World}{E:Env}{P:Program}
def Mine.kept{b:Nat}{cur:Array Value}(m:Mine C G w b cur e)(h:w'.heap[b]? =w.heap[b]?):Mine C G w' b cur e:=⟨m.1,m.2.1,h.trans m.2.2⟩
def Free(C:Cx)(s:St)(E:Env)(b:Nat):Prop:=C.w0.heap.size<=b/\(∀t a,s.var t=some a->E.vb t≠b)/\(∀j r p,s.row j=some r->E.rb j=some p->p.1≠b)/\(∀t a,s.get t= .box a->E.bx t≠b)
def aB.oR(g:aB C s a w E)(P:Option (Nat×Nat))(hk:Keeps w E.G w' E.G)(hb:Kept C.dr C.mu C.w0 w')(hsz:w.heap.size<=w'.heap.size)(hfix:∀p,C.fP i=some p->P=p)
  (hold:∀b,b<w.heap.size->(∀r p,s.row i=some r->E.rb i=some p->b≠p.1)->w'.heap[b]? =w.heap[b]?)
  (hnew:(P=none/\r'.ds=[])\/∃b cap cur,P=some (b,cap)/\Mine C E.G w' b cur r'.e/\cur.size=cap*r'.sz/\r'.ds.length<=cap/\cap<=maxLen/\
   (∀k,k<r'.ds.length->(r'.ds.getD k (.ak [])).width=r'.sz)/\(∀k j,k<r'.ds.length->j<r'.sz->Rd w' E.G (cur.getD (k*r'.sz+j) undef) ((r'.ds.getD k (.ak [])).cell j)))
  (d:∀b cap,P=some (b,cap)->Free C s E b\/∃r p,s.row i=some r/\E.rb i=some p/\p.1=b):
  aB C (s.newRow i r') a w' {E with rb:=λj=>if j=i then P else E.rb j}:=by
 have A:∀j c,(s.newRow i r').var j=some c->∃c0,s.var j=some c0/\c=c0.map (SV.aK i):=by
  intro j c h;rw [St.Nc]at h
  cases L:s.var j with
  |none=>simp [L]at h
  |some c0=>simp [L]at h;exact⟨c0,rfl,h.symm⟩
 have D:∀j c,(s.newRow i r').get j= .box c->s.get j= .box c:=by
  intro j c h;rw [St.ED]at h;exact SV.Xk i _ _ h
 have O:∀v x,Rel C.P w E s.row v x->Rel C.P w' {E with rb:=λj=>if j=i then P else E.rb j} (s.newRow i r').row v (x.aK i):=by
  intro v x h;exact Rel.aK (E:=E) (row:=s.row) (λj hj=>by rw [St.iY,ae hj]) (λj hj=>j5) (h.keep hk rfl rfl)
 have u:∀j r,(s.newRow i r').row j=some r->(j=i/\r=r')\/(j≠i/\s.row j=some r):=by
  intro j r h;rw [St.iY]at h
  split at h
  ·cases h;exact .inl ⟨kf,rfl⟩
  ·exact .inr ⟨kf,h⟩
 have hlt:∀j r p,j≠i->s.row j=some r->E.rb j=some p->w'.heap[p.1]? =w.heap[p.1]?:=by
  intro j r p l f H;exact hold p.1 (g.ku f H) (λM N n q K=>l (g.rr j i r M p f n H N q K))
 exact{
  kept:=hb
  maps:=λr m h=>(g.maps r m h).keep hk (λh=>h) (λb x hx hn=>(hold b (bm.1 hx).1 (λM p f H K=>by
   rcases g.rows i M f with⟨Q,_⟩|⟨b',cap,cur,Q,mm,_⟩
   ·rw [Q]at H;cases H
   ·rw [Q]at H;cases H
    rw [K,mm.2.2]at hx;cases hx;exact hn _ _ _ rfl)).trans hx)
  aZ:=g.aZ
  bM:=λj p h=>by
   by_cases c:j=i
   ·subst c;simp only [a7];exact hfix p h
   ·simp only [ae c];exact g.bM j p h
  bI:=λj r p h H L=>by
   rcases u j r h with⟨rfl,rfl⟩|⟨l,f⟩
   ·simp only [a7]at H
    rcases d p.1 p.2 H with X|⟨M,N,n,q,z⟩
    ·exact .inl X.1
    ·rw [<-z];exact g.bI j M N n q L
   ·simp only [ae l]at H
    exact g.bI j r p f H L
  defers:=g.defers
  size:=g.size
  g0:=g.g0
  g1:=g.g1
  tab:=g.tab.keep hk
  gw:=λb o h=>cj (g.gw b o h) hsz
  slots:=λt=>by rw [St.ED];exact O _ _ (g.slots t)
  aV:=λt=>by rw [St.Xm];exact O _ _ (g.aV t)
  vars:=λt c h=>by
   obtain⟨c0,L,rfl⟩:=A t c h;obtain⟨cur,e,m,hs,f⟩:=g.vars t c0 L;refine⟨cur,e,m.kept (hold _ m.lt (λr p f H K=>g.vr t c0 i r p L f H K)),uu hs,λj hj=>?_⟩;rw [dB _ rfl];have:=f j (uu hj);exact⟨this.1,O _ _ this.2⟩
  rows:=λj r h=>by
   rcases u j r h with⟨rfl,rfl⟩|⟨l,f⟩
   ·simp only [a7]
    rcases hnew with h|⟨b,cap,cur,X,Q⟩
    ·exact .inl h
    ·exact .inr ⟨b,cap,cur,X,Q⟩
   ·simp only [ae l]
    rcases g.rows j r f with h|⟨b,cap,cur,X,m,Q,h3,h4,h5,h6⟩
    ·exact .inl h
    ·exact .inr ⟨b,cap,cur,X,m.kept (hlt j r (b,cap) l f X),Q,h3,h4,h5,λk j hk' hj=>(h6 k j hk' hj).keep hk⟩
  boxes:=λt c h=>by
   have G:=D t c h;obtain⟨X,⟨e,m⟩,Q⟩:=g.boxes t c G;exact⟨X,⟨e,m.kept (hold _ m.lt (λr p f H K=>g.br t c i r p G f H K))⟩,Q⟩
  vv:=λt T c c' h G K=>by
   obtain⟨_,h,_⟩:=A t c h;obtain⟨_,G,_⟩:=A T c' G;exact g.vv t T _ _ h G K
  rr:=λj j' r r2 p h G H p' J K=>by
   rcases u j r h with⟨rfl,rfl⟩|⟨l,f⟩<;>rcases u j' r2 G with⟨rfl,rfl⟩|⟨U,Z⟩
   ·rfl
   ·simp only [a7]at H
    simp only [ae U]at J;rcases d p.1 p.2 H with h|⟨M,N,n,q,z⟩
    ·exact(h.2.2.1 j' r2 p' Z J K.symm).elim
    ·exact g.rr j j' M r2 N n Z q p' J (z.trans K)
   ·simp only [a7]at J
    simp only [ae l]at H;rcases d p'.1 p'.2 J with h|⟨M,N,n,q,z⟩
    ·exact(h.2.2.1 j r p f H K).elim
    ·exact g.rr j j' r M p f n H N q (K.trans z.symm)
   ·simp only [ae l]at H
    simp only [ae U]at J;exact g.rr j j' r r2 p f Z H p' J K
  vr:=λt c j r p h f H=>by
   obtain⟨c0,L,_⟩:=A t c h;rcases u j r f with⟨rfl,rfl⟩|⟨l,f⟩
   ·simp only [a7]at H
    rcases d p.1 p.2 H with h|⟨M,N,n,q,z⟩
    ·exact h.2.1 t c0 L
    ·rw [<-z];exact g.vr t c0 j M N L n q
   ·simp only [ae l]at H
    exact g.vr t c0 j r p L f H
  bb:=λt T c c' h G=>g.bb t T c c' (D t c h) (D T c' G)
  bv:=λt T c c' h G=>by obtain⟨c0,L,_⟩:=A T c' G;exact g.bv t T c c0 (D t c h) L
  br:=λt c j r p h f H=>by
   have G:=D t c h;rcases u j r f with⟨rfl,rfl⟩|⟨l,f⟩
   ·simp only [a7]at H
    rcases d p.1 p.2 H with Q|⟨M,N,n,q,z⟩
    ·exact Q.2.2.2 t c G
    ·rw [<-z];exact g.br t c j M N G n q
   ·simp only [ae l]at H
    exact g.br t c j r p G f H}
def aB.row(g:aB C s a w E)(P:Option (Nat×Nat))(n:Keeps w E.G w' E.G)(e:Kept C.dr C.mu C.w0 w')(z:w.heap.size<=w'.heap.size)(x:∀p,C.fP i=some p->P=p)
  (hold:∀b,b<w.heap.size->(∀r p,s.row i=some r->E.rb i=some p->b≠p.1)->w'.heap[b]? =w.heap[b]?)
  (d:(P=none/\r'.ds=[])\/∃b cap cur,P=some (b,cap)/\Mine C E.G w' b cur r'.e/\cur.size=cap*r'.sz/\r'.ds.length<=cap/\cap<=maxLen/\
   (∀k,k<r'.ds.length->(r'.ds.getD k (.ak [])).width=r'.sz)/\(∀k j,k<r'.ds.length->j<r'.sz->Rd w' E.G (cur.getD (k*r'.sz+j) undef) ((r'.ds.getD k (.ak [])).cell j)))
  (H:∀b cap,P=some (b,cap)->w.heap.size<=b\/∃r p,s.row i=some r/\E.rb i=some p/\p.1=b):
  aB C (s.newRow i r') a w' {E with rb:=λj=>if j=i then P else E.rb j}:=by
 refine g.oR P n e z x hold d (λb cap h=>?_);rcases H b cap h with f|f
 ·refine .inl ⟨bz g.kept.size f,λt o v=>?_,λj r p l m=>?_,λt o e=>?_⟩
  ·have:=g.nU v;omega
  ·have:=g.ku l m;omega
  ·have:=g.tX e;omega
 ·exact .inr f
inductive SV.le:SV->SV->Prop
 |dead (x:SV):SV.le x .dead
 |same (x:SV):SV.le x x
 |nil (sz:Nat):SV.le (.pd (.raw (.slice none 0 0))) (.pd (.list sz []))
 |gd (c:Bool) (x:SV):SV.le x (.gd c x)
structure St.le(s s':St):Prop where
 n:s'.n=s.n
 slots:∀t,SV.le (s.get t) (s'.get t)
 vars:∀t cs,s'.var t=some cs->∃cs0,s.var t=some cs0/\cs0.length=cs.length/\∀j,j<cs.length->SV.le (cs0.getD j .dead) (cs.getD j .dead)
 rows:∀i r,s'.row i=some r->s.row i=some r
 maps:∀r m,s'.map r=some m->s.map r=some m
 gs:∀t,SV.le (s.dR t) (s'.dR t)
def Rel.le{row:Nat->Option Row}{y:SV}(h:Rel P w E row v x)(l:SV.le x y):Rel P w E row v y:=by
 cases l with
 |dead=>trivial
 |same=>exact h
 |nil s=>have:=aH.aC h;subst this;exact .nil s
 |gd c x=>exactλ_=>h
def Rel.UA{row a:Nat->Option Row}(h:∀i r,a i=some r->row i=some r)(H:Rel P w E row v x):Rel P w E a v x:=by
 induction x generalizing v with
 |own id=>exactλb d=>H b (h id b d)
 |dP id i off=>exactλb d=>H b (h id b d)
 |view id k=>exactλb d=>H b (h id b d)
 |gd c x f=>exactλg=>f (H g)
 |gV t x f=>obtain⟨u,e,H⟩:=H;exact⟨u,e,f H⟩
 |_=>exact H
def SV.le.box{cs:List Value}(h:SV.le x (.box cs)):x= .box cs:=by cases h;rfl
def aB.weak{s':St}(g:aB C s a w E)(l:St.le s s'):aB C s' a w E:=by
 have d:∀{v:Value} {x:SV},Rel C.P w E s.row v x->Rel C.P w E s'.row v x:=λh=>h.UA l.rows
 have k:∀t b,s'.get t= .box b->s.get t= .box b:=λt b h=>by
  have:=l.slots t;rw [h]at this;exact this.box
 exact{
  kept:=g.kept
  aZ:=g.aZ
  bM:=g.bM
  maps:=λr m h=>g.maps r m (l.maps r m h)
  bI:=λi r p h=>g.bI i r p (l.rows i r h)
  defers:=g.defers
  size:=g.size.trans l.n.symm
  g0:=g.g0
  g1:=g.g1
  tab:=g.tab
  gw:=g.gw
  slots:=λt=>d ((g.slots t).le (l.slots t))
  aV:=λt=>d ((g.aV t).le (l.gs t))
  vars:=λt b h=>by
   obtain⟨q,K,G,n⟩:=l.vars t b h;obtain⟨o,e,m,D,A⟩:=g.vars t q K;exact⟨o,e,m,by rw [<-G];exact D,λj J=>⟨(A j qk).1,d ((A j qk).2.le (n j J))⟩⟩
  rows:=λi r h=>g.rows i r (l.rows i r h)
  boxes:=λt b h=>g.boxes t b (k t b h)
  vv:=λt T c f h H=>by
   obtain⟨_,h,_⟩:=l.vars t c h;obtain⟨_,H,_⟩:=l.vars T f H;exact g.vv t T _ _ h H
  rr:=λi z r u p h H=>g.rr i z r u p (l.rows i r h) (l.rows z u H)
  vr:=λt c i r p h H=>by obtain⟨_,h,_⟩:=l.vars t c h;exact g.vr t _ i r p h (l.rows i r H)
  bb:=λt T c f h H=>g.bb t T c f (k t c h) (k T f H)
  bv:=λt T c f h H=>by obtain⟨_,H,_⟩:=l.vars T f H;exact g.bv t T c _ (k t c h) H
  br:=λt c i r p h H=>g.br t c i r p (k t c h) (l.rows i r H)}
def R.weak{s':St}(l:St.le s s')(h:R C k s'):R C k s:=λa w E g=>h a w E (g.weak l)
def SV.dI(i:Nat)(r:Row):SV->SV
 | .own a=>if a=i then .pd (.list r.sz r.ds)else .own a
 | .dP a k off=>if a=i then .dead else .dP a k off
 | .view a k=>if a=i then .dead else .view a k
 | .gd c v=>.gd c (v.dI i r)
 | .gV t v=>.gV t (v.dI i r)
 |v=>v
def er{α:Type}(k:Nat):List (Nat×α)->List (Nat×α)
 | []=>[]
 |(j,x)::l=>if j=k then er k l else(j,x)::er k l
def TJ{α:Type}(k j:Nat)(l:List (Nat×α)):lk j (er k l)=if j=k then none else lk j l:=by
 induction l with
 |nil=>simp [er,lk]
 |cons p l a=>
  obtain⟨i,x⟩:=p;simp only [er]
  by_cases h:i=k
  ·subst h
   simp only [a7,a,lk]
   by_cases H:j=i
   ·simp [H]
   ·simp [H,bt H]
  ·simp only [h,ba,lk,a]
   by_cases H:i=j
   ·subst H;simp [h]
   ·simp [H]
def St.dI(s:St)(i:Nat)(r:Row):St:=
 {s with slots:=s.slots.map λp=>(p.1,p.2.dI i r),vars:=s.vars.map λp=>(p.1,p.2.map (SV.dI i r)),rows:=er i s.rows,gs:=s.gs.map λp=>(p.1,p.2.dI i r)}
def SV.Mt(i:Nat)(r:Row)(v:SV)(cs:List Value)(h:v.dI i r= .box cs):v= .box cs:=by
 cases v<;>simp only [SV.dI]at h<;>first|exact h|(split at h<;>cases h)|cases h
def St.Pv(s:St)(i:Nat)(r:Row)(j:Nat):(s.dI i r).get j=(s.get j).dI i r:=by
 simp only [St.get,St.dI,dh];cases lk j s.slots<;>rfl
def St.UC(s:St)(i:Nat)(r:Row)(j:Nat):(s.dI i r).dR j=(s.dR j).dI i r:=by
 simp only [St.dR,St.dI,dh];cases lk j s.gs<;>rfl
def St.X5(s:St)(i:Nat)(r:Row)(j:Nat):(s.dI i r).var j=(s.var j).map (List.map (SV.dI i r)):=by
 simp only [St.var,St.dI,dh]
def St.X6(s:St)(i:Nat)(r:Row)(j:Nat):(s.dI i r).row j=if j=i then none else s.row j:=by
 simp only [St.row,St.dI,TJ]
def aB.dI(g:aB C s a w E)(hr0:C.fP i=none)(P:s.row i=some r)(hold:C.old i=none):∃E',aB C (s.dI i r) a w E':=by
 let G':Pub:=λb o=>E.G b o\/∃p,E.rb i=some p/\b=p.1
 have hG:∀b o,E.G b o->G' b o:=λ_ _ h=>.inl h;have hk:Keeps w E.G w G':=.same hG;refine⟨{E with G:=G'},?_⟩
 have K:∀j c,(s.dI i r).var j=some c->∃c0,s.var j=some c0/\c=c0.map (SV.dI i r):=by
  intro j c h;rw [St.X5]at h
  cases Z:s.var j with
  |none=>simp [Z]at h
  |some c0=>simp [Z]at h;exact⟨c0,rfl,h.symm⟩
 have L:∀j c,(s.dI i r).get j= .box c->s.get j= .box c:=by
  intro j c h;rw [St.Pv]at h;exact SV.Mt i r _ _ h
 have H:∀j J,(s.dI i r).row j=some J->j≠i/\s.row j=some J:=by
  intro j J h;rw [St.X6]at h
  split at h
  ·cases h
  ·exact⟨kf,h⟩
 have mn:∀b z e,(∀p,E.rb i=some p->b≠p.1)->Mine C E.G w b z e->Mine C G' w b z e:=λb z e T m=>
  ⟨m.1,λo h=>by rcases h with h|⟨p,D,rfl⟩;exact m.2.1 o h;exact T p D rfl,m.2.2⟩
 have hlist:∀v,Rel C.P w E s.row v (.own i)->Rd w G' v (.list r.sz r.ds):=by
  intro v hv;rcases hv r P with⟨q,rfl⟩|⟨b,cap,q,rfl⟩
  ·rw [g.nX i r P q];exact .nil _
  ·rcases g.rows i r P with⟨A,_⟩|⟨b',cap',z,A,_,h3,h4,h5,h6,_⟩
   ·rw [A]at q;cases q
   ·rw [A]at q;cases q
    refine Rd.nV h4 h5 h6 (λk U j Q=>?_);rw [h6 k U]at Q;obtain⟨u,hu1,hu2⟩:=g.Ak P A U Q;exact⟨.inr ⟨_,A,rfl⟩,u,uu hu1,hu2.keep hk⟩
 have O:∀v x,Rel C.P w E s.row v x->Rel C.P w {E with G:=G'} (s.dI i r).row v (x.dI i r):=by
  intro v x h
  induction x generalizing v with
  |own i'=>
   simp only [SV.dI]
   split
   ·rename_i X;subst X;exact(hlist v h).tV
   ·rename_i T;exactλJ N=>h J (H _ _ N).2
  |dP i' k off=>
   simp only [SV.dI]
   split
   ·trivial
   ·exactλJ N=>h J (H _ _ N).2
  |view i' k=>
   simp only [SV.dI]
   split
   ·trivial
   ·exactλJ N=>h J (H _ _ N).2
  |gd c x ih=>exactλhc=>ih _ (h hc)
  |gV t x ih=>obtain⟨u,e,h⟩:=h;exact⟨u,e,ih _ h⟩
  |dead=>trivial
  |pd d=>exact aH.keep hk h
  |ref d off=>obtain⟨b,base,e,h⟩:=h;exact⟨b,base,e,h.keep hk⟩
  |aA t off=>exact h
  |nT t n=>exact h
  |tpl ds=>obtain⟨vs,e,hs,h⟩:=h;exact⟨vs,e,hs,λj Q=>(h j Q).keep hk⟩
  |clo f caps=>exact h
  |fn F=>exact qx.keep hk h
  |box _=>trivial
 exact{
  kept:=g.kept
  aZ:=g.aZ
  bM:=g.bM
  maps:=λb m h=>(g.maps b m h).keep hk (λhn o ho=>by
   rcases ho with ho|⟨p,D,rfl⟩
   ·exact hn o ho
   ·rcases g.rows i r P with⟨A,_⟩|⟨b',cap,z,A,mm,_⟩
    ·rw [A]at D;cases D
    ·rw [A]at D;cases D
     have hm:=g.maps b' m h
     cases m with
     |map m=>obtain⟨_,es,clock,q,_⟩:=hm;rw [mm.2.2]at q;cases q
     |it J l c=>obtain⟨_,_,_,_,_,_,q,_⟩:=hm;rw [mm.2.2]at q;cases q
     |gone=>obtain⟨_,x,q,A⟩:=hm;rw [mm.2.2]at q;cases q;exact A _ _ _ rfl
     |obj x=>obtain⟨_,q,A⟩:=hm;rw [mm.2.2]at q;cases q;exact A _ _ _ rfl) (λ_ _ hx _=>hx)
  bI:=λj J p h=>g.bI j J p (H j J h).2
  defers:=g.defers
  size:=g.size
  g0:=λb o h=>.inl (g.g0 b o h)
  g1:=λb o h=>by
   rcases h with h|⟨p,D,rfl⟩
   ·exact g.g1 b o h
   ·rcases g.rows i r P with⟨A,_⟩|⟨b',cap',z,A,m,_⟩
    ·rw [A]at D;cases D
    ·exact .inr (Nb (g.bI i r p P D hr0) hold)
  tab:=g.tab.keep hk
  gw:=λb o h=>by
   rcases h with h|⟨p,D,rfl⟩
   ·exact g.gw b o h
   ·exact g.ku P D
  slots:=λt=>by rw [St.Pv];exact O _ _ (g.slots t)
  aV:=λt=>by rw [St.UC];exact O _ _ (g.aV t)
  vars:=λt c h=>by
   obtain⟨c0,Z,rfl⟩:=K t c h;obtain⟨z,e,m,hs,N⟩:=g.vars t c0 Z;refine⟨z,e,mn _ _ _ (λp D X=>g.vr t c0 i r p Z P D X) m,uu hs,λj Q=>?_⟩;rw [dB _ rfl];have:=N j (uu Q);exact⟨this.1,O _ _ this.2⟩
  rows:=λj J h=>by
   obtain⟨T,Q⟩:=H j J h;rcases g.rows j J Q with h|⟨b,cap,z,q,m,A,h3,h4,h5,h6⟩
   ·exact .inl h
   ·exact .inr ⟨b,cap,z,q,mn _ _ _ (λp D X=>T (g.rr j i J r (b,cap) Q P q p D X)) m,A,h3,h4,h5,λk j U Q=>(h6 k j U Q).keep hk⟩
  boxes:=λt c h=>by
   have M:=L t c h;obtain⟨q,⟨e,m⟩,A⟩:=g.boxes t c M;exact⟨q,⟨e,mn _ _ _ (λp D X=>g.br t c i r p M P D X) m⟩,A⟩
  vv:=λt t' c c' h M X=>by
   obtain⟨_,h,_⟩:=K t c h;obtain⟨_,M,_⟩:=K t' c' M;exact g.vv t t' _ _ h M X
  rr:=λj j' r1 r2 p h M=>g.rr j j' r1 r2 p (H j r1 h).2 (H j' r2 M).2
  vr:=λt c j r1 p h M=>by obtain⟨c0,Z,_⟩:=K t c h;exact g.vr t c0 j r1 p Z (H j r1 M).2
  bb:=λt t' c c' h M=>g.bb t t' c c' (L t c h) (L t' c' M)
  bv:=λt t' c c' h M=>by obtain⟨c0,Z,_⟩:=K t' c' M;exact g.bv t t' c c0 (L t c h) Z
  br:=λt c j r1 p h M=>g.br t c j r1 p (L t c h) (H j r1 M).2}
def R.dI(i:Nat)(H:C.fP i=none)(b:s.row i=some r)(h:R C k (s.dI i r))(hold:C.old i=none:=by rfl):R C k s:=λa w E g=>by
 obtain⟨d,G⟩:=g.dI H b hold;exact h a w d G
def R.mV(t i:Nat)(e:TypeId)(sz:Nat)(l:t<s.n)(hr0:C.fP i=none)(m:s.get t= .pd (.raw (.slice none 0 0)))(h:R C k ((s.newRow i ⟨e,sz,[]⟩).set t (.own i))):R C k s:=by
 intro a w E g;have n:=g.row (i:=i) (r':=⟨e,sz,[]⟩) (w':=w) none (Keeps.refl _ _) g.kept (a3 _) (λp hp=>jb) (λ_ _ _=>rfl) (.inl ⟨rfl,rfl⟩) (λb o h=>xa);have f:a.tmps.getD t undef= .slice none 0 0:=by have:=g.slots t;rw [m]at this;exact aH.aC this
 have G:=n.put (t:=t) (u:=.slice none 0 0) (v:=.own i) l (λr _=>.inl ⟨qr,rfl⟩) qr
 have:a.put (some t) (.slice none 0 0)=a:=by
  cases a with
  |mk T D=>
   simp only [Act.put,Act.mk.injEq,gz];rw [<-f];apply d6
   ·simp
   ·intro j q d
    by_cases H:t=j
    ·subst H;simp [bc,d]
    ·rw [Be d H]
 rw [this]at G;exact h a w _ G
end
section
variable {C:Cx}{s:St}{a:Act}{w w':World}{E:Env}{P:Program}{all:Array Oper}{l:List Oper}{k:List KI}{o:Oper}
def R.y{v:SV}(H:o.guard=none)(d:bU s o)(h:Y C.dr C.P s.var s.row (aO s) o v)(next:R C (.ops all l::k) (s.put o.dst v)):R C (.ops all (o::l)::k) s:=
 λ_ _ _ g=>bA H λ_ K=>Y.ok g (λx _=>aT g x) d h λ_ _ _ G=>K _ _ (next _ _ _ G)
def St.s9(s:St)(dst:Option Nat)(v a:SV)(h:SV.le v a):St.le (s.put dst v) (s.put dst a):=by
 cases dst with
 |none=>exact⟨rfl,λ_=>.same _,λt C h=>⟨C,h,rfl,λ_ _=>.same _⟩,λ_ _ h=>h,λ_ _ h=>h,λ_=>.same _⟩
 |some t=>
  refine⟨rfl,λj=>?_,λt C h=>⟨C,h,rfl,λ_ _=>.same _⟩,λ_ _ h=>h,λ_ _ h=>h,λ_=>.same _⟩;simp only [St.put,St.fO]
  split
  ·exact h
  ·exact .same _
def G8(g:aB C s a w E){t:Nat}{c:Bool}(i:o.guard=some (j,b))(f:(all[j]?).bind (·.dst)=some t)(k:s.get t= .pd (.raw (.bool c))):Region.wanted o (yielded all a.tmps)=(c==b):=by
 have d:=g.bool k
 have H:t<a.tmps.size:=by
  rcases cn t a.tmps.size with h|h
  ·exact h
  ·simp [bc,gv.2 h,undef]at d
 have e:a.tmps[t]? =some (.bool c):=by
  simp [bc,H]at d;simp [H,d]
 simp only [Region.wanted,i,yielded,f,Option.bind_some,e]
 cases c<;>cases b<;>rfl
def R.yg{v:SV}{t:Nat}{c:Bool}(i:o.guard=some (j,b))(f:(all[j]?).bind (·.dst)=some t)(m:s.get t= .pd (.raw (.bool c)))(d:bU s o)
  (h:(c==b)=true->qF (c==b) (o.op.operands.toList.map (aO s))/\Y C.dr C.P s.var s.row (yI s) o v)(next:R C (.ops all l::k) (s.put o.dst (.gd (c==b) v))):R C (.ops all (o::l)::k) s:=by
 intro a w E g;refine wpList_step λK e=>?_;rw [G8 g i f m]
 split
 ·rename_i H
  obtain⟨p,n⟩:=h H;exact Y.ok g (s8 g H p) d n λ_ _ _ G=>e _ _ (next _ _ _ (G.weak (St.s9 s o.dst v _ (.gd _ _))))
 ·rename_i H
  exact e _ _ (next _ _ _ (g.eY d (λh=>(H h).elim) qr))
def R.name(t:Nat){zs:List Value}(H:C.vb0 t=none)(h:s.get t= .box zs)(next:R C k (s.newVar t (zs.map λv=>.pd (.raw v)))):R C k s:=
 λa w _ g=>next a w _ (g.so H h)
def BN(row:Nat->Option Row):SV->Option (List SV)
 | .pd d=>some (d.cells.map .pd)
 | .ref d o=>some [.ref d o]
 | .aA t o=>some [.aA t o]
 | .own i=>if(row i).isSome then some [.own i]else none
 | .clo f c=>some [.clo f c]
 | .fn F=>some [.fn F]
 | .gV t x=>some [.gV t x]
 |_=>none
def sA{row:Nat->Option Row}{v:SV}{l:List SV}(h:BN row v=some l)(H:Rel P w E row u v):
  u.cells.size=l.length/\∀j,j<l.length->(u.cells.getD j undef).oneCell'=true/\Rel P w E row (u.cells.getD j undef) (l.getD j .dead):=by
 have one:∀x,u.oneCell'=true->Rel P w E row u x->u.cells.size=[x].length/\∀j,j<[x].length->(u.cells.getD j undef).oneCell'=true/\Rel P w E row (u.cells.getD j undef) ([x].getD j .dead):=by
  intro x a p;have m:u.cells= #[u]:=by cases u<;>simp_all [Value.cells,eb]
  rw [m];refine⟨rfl,λj hj=>?_⟩;have:j<1:=hj;obtain rfl:j=0:=qk;exact⟨a,p⟩
 cases v with
 |pd d=>
  simp only [BN,bo]at h;subst h;have g:=aH.cells H;refine⟨uu g.1,λj hj=>?_⟩;simp only [al]at hj;have a:=g.2 j hj;have e:(d.cells.map SV.pd).getD j .dead= .pd (d.cells.getD j (.ak [])):=j5;have q:u.cells.getD j undef=u.cells.toList.getD j undef:=by simp [aL,ag]
  rw [e,q];exact⟨a.oneCell,a.tV⟩
 |ref d o=>
  simp only [BN,bo]at h;subst h;refine one _ ?_ H;obtain⟨b,k,rfl,_⟩:=H;rfl
 |aA t o=>
  simp only [BN,bo]at h;subst h;refine one _ ?_ H;simp only [Rel]at H;subst H;rfl
 |own i=>
  simp only [BN]at h
  split at h<;>cases h
  rename_i s;refine one _ ?_ H;obtain⟨r,n⟩:=dm.1 s;rcases H r n with⟨_,rfl⟩|⟨b,C,_,rfl⟩<;>rfl
 |clo f c=>
  simp only [BN,bo]at h;subst h;refine one _ ?_ H;simp only [Rel]at H;subst H;rfl
 |fn F=>
  simp only [BN,bo]at h;subst h;refine one _ ?_ H;obtain⟨f,x,c,rfl,_⟩:=H;rfl
 |gV t x=>
  simp only [BN,bo]at h;subst h;refine one _ ?_ H;obtain⟨u,rfl,_⟩:=H;rfl
 |_=>simp [BN]at h
def qj{α:Type}(d:α)(xs s:List α)(off j:Nat)(h:off+s.length<=xs.length)(a:j<xs.length):
  (xs.take off++s++xs.drop (off+s.length)).getD j d=if off<=j/\j<off+s.length then s.getD (j-off) d else xs.getD j d:=by
 have H:(xs.take off).length=off:=qz;simp only [ag,cD]
 by_cases C:j<off
 ·rw [ae qk,cv qk,eD,af C]
 ·have e:(xs.take off++(s++xs.drop (off+s.length)))[j]? =(s++xs.drop (off+s.length))[j-off]?:=by rw [dj qk,H]
  rw [e]
  by_cases b:j<off+s.length
  ·rw [af qk,cv qk]
  ·rw [ae qk,dj qk,kA]
   congr 2;omega
def R.store{x y:Operand}{d off:Nat}(O:o.op= .store ty x y)(P:o.guard=none)(Q:bU s o)(M:aO s x= .aA d off)(q:s.var d=some cs)
  (J:BN s.row (aO s y)=some L)(G:aP C.P ty≠0)(hl:aP C.P ty=L.length)(u:off+L.length<=cs.length)
  (next:R C (.ops all l::k) ((s.setVar d (cs.take off++L++cs.drop (off+L.length))).put o.dst .dead)):R C (.ops all (o::l)::k) s:=by
 intro a w E g;refine bA P λK T=>?_;have D:=aT g x;rw [M]at D;have U:=aT g y;obtain⟨z,h⟩:=sA J U;obtain⟨r,e,m,f,N⟩:=g.vars d cs q;simp only [Rel]at D
 have i:∀v∈(a.eval y).cells.toList,v.oneCell'=true:=by
  intro v q;obtain⟨j,p,rfl⟩:=bN q;have A:j<(a.eval y).cells.size:=uu p;have:=(h j qk).1;simpa [bc,A]using this
 have b:(a.eval y).cells.toList.length=L.length:=uu z;have t:=run_storeCells_at C.P (E.vb d) off e (a.eval y).cells.toList 0 r w m.2.2 (by have:=f.1;simp;omega) i
 have n:(ln ty (a.eval x) (a.eval y)).run C.P w= .ok () (w.setRow (E.vb d) (r.toList.take off++(a.eval y).cells.toList++r.toList.drop (off+(a.eval y).cells.toList.length)).toArray):=by
  simp only [ln,D,Instr.sureAddr,az,aD,a8,storeVar,jf G];rw [ae qk];simpa using t
 unfold b5 execOp;simp only [O,az,n,a8,aD,Oper.upon_skip];have H:(cs.take off++L++cs.drop (off+L.length)).length=cs.length:=qz
 have X:=g.store (cs':=cs.take off++L++cs.drop (off+L.length)) q (r.toList.take off++(a.eval y).cells.toList++r.toList.drop (off+(a.eval y).cells.toList.length)).toArray
  (by
   rw [H];have h9:=f.1
   have:(r.toList.take off++(a.eval y).cells.toList++r.toList.drop (off+(a.eval y).cells.toList.length)).toArray.size=r.size:=by
    simp only [dp,bd,fb,fa,b,cb];omega
   rw [this];exact f) (λj p=>by
   rw [H]at p
   have Z:(r.toList.take off++(a.eval y).cells.toList++r.toList.drop (off+(a.eval y).cells.toList.length)).toArray.getD j undef=(r.toList.take off++(a.eval y).cells.toList++r.toList.drop (off+(a.eval y).cells.toList.length)).getD j undef:=by
    rw [aL,ag,gc]
   rw [Z,qj _ _ _ _ _ (by have:=f.1;simp [b];omega) (by have:=f.1;simp;omega),qj _ _ _ _ _ u p,b]
   by_cases c:off<=j/\j<off+L.length
   ·rw [af c,af c]
    have:=h (j-off) qk;simpa [aL,ag]using this
   ·rw [ae c,ae c]
    have:=N j p;simpa [aL,ag]using this)
 exact T _ _ (next _ _ _ (X.eY (o:=o) Q trivial qr))
def R.box{x:Operand}{t:Nat}(ho:o.op= .box ty x)(O:o.guard=none)(f:o.dst=some t)(ht:t<s.n)(q:C.vb0 t=none)(A:BN s.row (aO s x)=some L)
  (next:R C (.ops all l::k) (s.newVar t (L.map (SV.kill t)))):R C (.ops all (o::l)::k) s:=by
 intro a w E g;refine bA O λK P=>?_;have Q:=aT g x;obtain⟨z,H⟩:=sA A Q;unfold b5 execOp;simp only [ho,az,Instr.box,newVar,newRow,run_newObj,a8,aD,ci,f];have Z:=g.grow (w':=w.alloc (.cells (a.eval x).cells ty)) (bF w _) E.G (λ_ _ h=>h) (λ_ _ h=>.inl h);have X:=Z.dead ht (.pointer (some ⟨w.heap.size,0,none⟩));have u:t<a.tmps.size:=yl;have M:Keeps w E.G (w.alloc (.cells (a.eval x).cells ty)) E.G:=Keeps.of_below g.gw (bF w _) (λ_ _ h=>h);have m:Mine C E.G (w.alloc (.cells (a.eval x).cells ty)) w.heap.size (a.eval x).cells ty:=⟨.inl g.kept.size,λo ho=>w8,heap_alloc_new w _⟩
 have U:=X.named (b:=w.heap.size) (cs:=L.map (SV.kill t)) (by rw [dF a t _ t u,af rfl]) m (uu z) (λj d=>by
   simp only [al]at d;rw [dB _ rfl];have:=H j d;exact⟨this.1,((this.2.keep (E':={E with G:=E.G}) M rfl rfl).kill)⟩)
  (λT n D _ e=>by have:=g.nU (t:=T) (cs:=n) D;rw [e]at this;omega)
  (λi r p N J e=>by have:=g.ku (i:=i) (r:=r) N (p:=p) J;rw [<-e]at this;omega)
  (λj n d v e=>by
   rw [St.fO,ae v]at d;have:=g.tX d;simp only at e;omega) q
 refine P _ _ (next _ _ _ (U.weak ⟨rfl,λj=>?_,λj cs h=>⟨cs,h,rfl,λ_ _=>.same _⟩,λ_ _ h=>h,λ_ _ h=>h,λ_=>.same _⟩));rw [St.mQ,St.mQ,St.fO]
 split
 ·exact .same _
 ·exact .same _
end
end Go.au
