/- A part of the proof. -/
import Derived.Test.YtgeljjfmcmbejaaGreatDoorPAy
import Derived.Deep.SlicePairs
set_option linter.all false
set_option linter.deprecated false
open Go renaming run_underlying→bq
open Go.Instr renaming field→n9,fieldAt→p8,sliceBound→se,sliceBounds→ld,sliceAt→k8,slice→nk
open Go.Value renaming cells→pA,oneCell'→eb
set_option maxRecDepth 100000
set_option maxHeartbeats 4000000
namespace Go.au
open Go.ChangeShapes Go.WideShapes
variable {t:TypeId}{G:Pub}{v x:SV}{vc:Prop}{u:Value}
def Pub.heap(w:World):Pub:=λb _=>b<w.heap.size
section
variable {H:Type}{enc:TypeId×Value->H}{P:Program}{w:World}
def Opens{α:Type}(enc:TypeId×Value->H)(P:Program)(w:World)(t:TypeId)(sz:Nat)(e:α->PD):Prop:=
 (∀a,(e a).width=sz)/\∀f C x,DataW.trod enc P w 0 (λ_=>true) true f t C=some x->∃a:α,C.length=sz/\∀j,j<sz->Rd w (Pub.heap w) (C.getD j undef) ((e a).cell j)
def BB{k:IntKind}(H:P.underlying t=some (.int k)):Opens enc P w t 1 (λn:Int=>.raw (.int k n)):=by
 refine⟨λ_=>rfl,λf C x h=>?_⟩
 cases f with
 |zero=>simp [DataW.trod]at h
 |succ m=>
  unfold DataW.trod at h;rw [H]at h
  split at h<;>simp_all
  exact⟨_,.raw _ rfl⟩
end
section
variable {C:Cx}{s:St}{a:Act}{w:World}{E:Env}{P:Program}{row:Nat->Option Row}
def aH.sp{v:Value}{d:PD}(h:aH w G v d)(H:d.fZ=true):∃cs:Array Value,v= .agg cs/\cs.size=d.width/\∀j,j<d.width->Rd w G (cs.getD j undef) (d.cell j):=by
 cases d with
 |ak D=>exact h
 |raw _=>simp [PD.fZ]at H
 |list _ _=>simp [PD.fZ]at H
 |clo _ _=>simp [PD.fZ]at H
 |mp _ _=>simp [PD.fZ]at H
 |ptr _=>simp [PD.fZ]at H
 |unk=>simp [PD.fZ]at H
def Uw{cs:Array Value}{off:Nat}{d:PD}(k:aQ P t=true)(s:cs.size=d.width)(r:∀j,j<d.width->Rd w G (cs.getD j undef) (d.cell j)):
  (bT P t=false->off<d.width->∃u,(part t cs off).run P w= .ok u w/\aH w G u (d.cell off))/\
  (bT P t=true->aP P t≠0->off+aP P t<=d.width->∃u,(part t cs off).run P w= .ok u w/\aH w G u (.ak ((d.cells.drop off).take (aP P t)))):=by
 constructor
 ·intro a H
  have e:off<cs.size:=qk;refine⟨cs[off],by simp [part,Ai k,a,e],?_⟩;have:=r off H;simp [e]at this;exact this.tV
 ·intro a z h
  refine⟨.agg (cs.extract off (off+aP P t)),by simp [part,Ai k,a,jf z],_,rfl,by rw [nN d off _ h];simp;omega,λj b=>?_⟩;rw [nN d off _ h]at b;rw [vW d off _ j b h];have i:j<(cs.extract off (off+aP P t)).size:=qz
  have f:(cs.extract off (off+aP P t)).getD j undef=cs.getD (off+j) undef:=by
   have g:off+j<cs.size:=qk;simp only [aL,Array.getElem?_extract];rw [af qk]
  rw [f];exact r (off+j) qk
def YX{f:Nat}(h:DN P t f x=some (vc,v))(A:vc)(l:Rel P w E row u x):
  ∃U,(n9 t u f).run P w= .ok U w/\Rel P w E row U v:=by
 cases x with
 |pd d=>
  simp only [DN]at h
  split at h
  ·rename_i off p o
   obtain⟨q,m,n,H,rfl,rfl⟩:=EG o
   split at h<;>cases h
   ·rename_i g
    obtain⟨k,a,e,z⟩:=A;obtain⟨C,rfl,s,r⟩:=aH.sp l a;obtain⟨U,j,i⟩:=(Uw (P:=P) (off:=m.offset) k s r).2 g z e;exact⟨U,by simp [n9,bq n,H,asAgg,j],i⟩
   ·rename_i g
    obtain⟨k,a,b⟩:=A;obtain⟨C,rfl,s,r⟩:=aH.sp l a;obtain⟨U,j,i⟩:=(Uw (P:=P) (off:=m.offset) k s r).1 (uu g) b;exact⟨U,by simp [n9,bq n,H,asAgg,j],i⟩
  ·cases h
 |_=>simp [DN]at h
def xG{f:Nat}(h:qh P row t f x=some (vc,v))(A:vc)(a:Rel P w E row u x):
  ∃U,(p8 t u f).run P w= .ok U w/\Rel P w E row U v:=by
 unfold qh at h
 split at h
 ·rename_i off O G
  obtain⟨T,s,K,n,rfl,rfl⟩:=EG G
  have C:∀b o,aP P s.type≠0->(p8 t (.pointer (some ⟨b,o,none⟩)) f).run P w= .ok (.pointer (some ⟨b,o+s.offset,none⟩)) w:=by
   intro b o z;simp [p8,bq K,n,Instr.sureAddr,fieldPlace,jf z,z,addr_add]
  cases x with
  |ref d o=>
   cases h
   obtain⟨b,e,rfl,k⟩:=a;exact⟨_,C b (e+o) A,b,e,by simp [et],k⟩
  |pd q=>
   cases q<;>first|(cases h;done)|skip
   rename_i d
   cases h
   cases a with
   |ptr _ b o L Q H l=>exact⟨_,C b o A,b,o,rfl,λj m=>⟨Q j m,_,H j m,l j m⟩⟩
  |aA M o=>
   cases h
   simp only [Rel]at a;subst a;exact⟨_,C _ o A,rfl⟩
  |dP id i o=>
   simp only at h
   split at h<;>cases h
   rename_i D;obtain⟨r,k⟩:=dm.1 D;obtain⟨b,p,J,rfl⟩:=a r k;refine⟨_,C b _ A,λN g=>?_⟩;rw [k]at g;cases g;exact⟨b,p,J,by simp [et]⟩
  |_=>cases h
 ·cases h
def HM{ty:TypeId}(h:Ju P row t x=some (vc,v))(a:vc)(H:Rel P w E row u x)(l:∀id r,row id=some r->E.rb id=none->r.ds=[]):
  ∃U,(Builtin.len_ #[t] ty #[u]).run P w= .ok U w/\Rel P w E row U v:=by
 have C:∀o n c,(eu P t).isSome=true->(Builtin.len_ #[t] ty #[.slice o n c]).run P w= .ok (.int .i64 n) w:=by
  intro o n c s
  cases g:eu P t with
  |none=>simp [g]at s
  |some e=>simp [Builtin.len_,bq (iJ g),goInt]
 unfold Ju at h
 split at h
 ·rename_i z D
  cases h
  rcases Rd.jM H with⟨p,rfl,rfl⟩|⟨b,off,d,rfl,_⟩
  ·exact⟨_,C _ _ _ a,.raw _ rfl⟩
  ·exact⟨_,C _ _ _ a,.raw _ rfl⟩
 ·cases h
  have:=aH.aC H;subst this;exact⟨_,C _ _ _ a,.raw _ rfl⟩
 ·cases h
  have:=aH.aC H;subst this;exact⟨_,by simp [Builtin.len_,bq (xC a),goInt],.raw _ rfl⟩
 ·split at h
  ·rename_i id r f
   cases h
   rcases H r f with⟨i,rfl⟩|⟨b,d,i,rfl⟩
   ·have:=l _ _ f i
    rw [this];exact⟨_,C _ _ _ a,.raw _ rfl⟩
   ·exact⟨_,C _ _ _ a,.raw _ rfl⟩
  ·cases h
 ·split at h
  ·rename_i id k _ r f
   cases h
   obtain⟨_,b,d,_,rfl⟩:=H r f;exact⟨_,C _ _ _ a,.raw _ rfl⟩
  ·cases h
 ·cases h
  simp only [Rel]at H;obtain⟨d,_,_,rfl⟩:=H;exact⟨_,C _ _ _ a,.raw _ rfl⟩
 ·cases h
def Rel.bool{b:Bool}(h:Rel P w E row u (.pd (.raw (.bool b)))):u= .bool b:=aH.aC h
def BC{y z:SV}{f U:Value}(h:Nj x y z=some (vc,v))(A:vc)(H:Rel P w E row f x)(e:Rel P w E row U y)(d:Rel P w E row u z):
  ∃c,f= .bool c/\Rel P w E row (if c then U else u) v:=by
 unfold Nj at h
 split at h<;>first|cases h|skip
 ·rename_i c x y
  have:=Rel.bool H;subst this;refine⟨c,rfl,?_⟩;have b:=Rel.bool e;have a:=Rel.bool d;subst b;subst a
  cases c<;>exact .raw _ rfl
 ·rename_i c C x y
  have:=Rel.bool H;subst this;refine⟨c,rfl,?_⟩;have a:=Rel.bool d;subst a
  cases c
  ·exact .raw _ rfl
  ·have b:=Rel.bool (e (A rfl));subst b;exact .raw _ rfl
 ·rename_i c x C y
  have:=Rel.bool H;subst this;refine⟨c,rfl,?_⟩;have b:=Rel.bool e;subst b
  cases c
  ·have a:=Rel.bool (d (A rfl));subst a;exact .raw _ rfl
  ·exact .raw _ rfl
 ·have:=Rel.bool H;subst this
  exact⟨true,rfl,uu e⟩
 ·have:=Rel.bool H;subst this
  exact⟨false,rfl,uu d⟩
def EI{d:Int}{x:Option SV}{i:Int}(h:bound d x=some i){u:Option Value}(a:∀y,x=some y->∃v,u=some v/\Rel P w E row v y)(n:x=none->u=none):
  (x=none/\u=none/\i=d)\/∃k,u=some (.int k i):=by
 cases x with
 |none=>simp only [bound,bo]at h;exact .inl ⟨rfl,n rfl,h.symm⟩
 |some y=>
  obtain⟨v,rfl,H⟩:=a y rfl
  cases y with
  |pd q=>cases q with
   |raw r=>
    have:=aH.aC H;subst this
    cases v<;>simp [bound]at h
    subst h;exact .inr ⟨_,rfl⟩
   |_=>simp [bound]at h
  |_=>simp [bound]at h
def run_sliceBound{k:IntKind}{i:Int}{y:Nat}{c:BoundsCode}(H:0<=i)(h:i<=(y:Int)):(se (.int k i) y c).run P w= .ok i.toNat w:=by
 simp [se,uf,H,h]
def qE{b:Bool}{len cap:Nat}{lo hi:Option Value}{l h:Int}(H:(lo=none/\l=0)\/∃k,lo=some (.int k l))(a:(hi=none/\h=len)\/∃k,hi=some (.int k h))
  (d:0<=l)(f:l<=h)(m:h<=len)(j:len<=cap):(ld b len cap lo hi none).run P w= .ok (l.toNat,h.toNat,cap) w:=by
 have e:h<=(cap:Int):=qk;have g:l<=((h.toNat:Nat):Int):=qk;have A:0<=h:=qk;rcases H with⟨rfl,rfl⟩|⟨k,rfl⟩<;>rcases a with⟨rfl,rfl⟩|⟨K,rfl⟩
 ·simp [ld]
 ·simp [ld,run_sliceBound A e]
 ·have:=run_sliceBound (P:=P) (w:=w) (k:=k) (i:=l) (y:=len) (c:=.sliceB) d f
  simp [ld,this]
 ·simp [ld,run_sliceBound A e,run_sliceBound d g]
def YZ{lo hi:Option SV}{Nk Nl:Option Value}(h:Jv P t x lo hi=some (vc,v))(aS:vc)(Z:Rel P w E row u x)
  (q:∀y,lo=some y->∃v,Nk=some v/\Rel P w E row v y)(L:lo=none->Nk=none)(r:∀y,hi=some y->∃v,Nl=some v/\Rel P w E row v y)(K:hi=none->Nl=none):
  ∃X,(k8 t u Nk Nl none).run P w= .ok X w/\Rel P w E row X v:=by
 unfold Jv at h
 split at h
 ·rename_i M D
  split at h
  ·rename_i e l H T g j
   cases h
   obtain⟨h1,hz,A,f,d⟩:=aS
   have N:(Nk=none/\l=0)\/∃k,Nk=some (.int k l):=by
    rcases EI g q L with⟨_,h,m⟩|h
    ·exact .inl ⟨h,m⟩
    ·exact .inr h
   have O:(Nl=none/\H=(D.length:Int))\/∃k,Nl=some (.int k H):=by
    rcases EI j r K with⟨_,h,m⟩|h
    ·exact .inl ⟨h,m⟩
    ·exact .inr h
   have J:=iJ T;have z:(sizeOf e).run P w= .ok M w:=by rw [<-h1];exact jf qk
   have U:((D.take H.toNat).drop l.toNat).length=H.toNat-l.toNat:=qz;rcases Rd.jM Z with⟨p,rfl,rfl⟩|⟨b,off,C,rfl,s,hmax,hw,hr⟩
   ·simp at d
    have e1:l=0:=qk;have e2:H=0:=qk;subst e1;subst e2;refine⟨.slice p 0 0,?_,by simpa [Rel,aH]using Rd.emp (w:=w) (G:=E.G) M p⟩;have n:=qE (P:=P) (w:=w) (b:=true) (len:=0) (cap:=0) (lo:=Nk) (hi:=Nl) (l:=0) (h:=0) N (uu O) qk qk qr (a3 _)
    cases p<;>simp [k8,nk,bq J,n,z]
   ·have n:=qE (P:=P) (w:=w) (b:=true) (len:=D.length) (cap:=C) N O A f d s
    have a:∀i,i<H.toNat-l.toNat->((D.take H.toNat).drop l.toNat).getD i (.ak [])=D.getD (l.toNat+i) (.ak []):=by
     intro i hi;simp only [ag,kA,eD];rw [af qk]
    by_cases hc:C=l.toNat
    ·refine⟨.slice (some ⟨b,off,none⟩) (H.toNat-l.toNat) (C-l.toNat),by simp only [k8,nk,Sem.run_bind,bq J,Result.andThen_ok,n,z,Sem.run_pure,af hc],?_⟩
     have A:H.toNat-l.toNat=0:=qk;have o:(D.take H.toNat).drop l.toNat=[]:=kk qk;rw [o];have:=Rd.nV (w:=w) (G:=E.G) (sz:=M) (ds:=[]) (b:=b) (off:=off) (cap:=C-l.toNat) qr qk qr qr;simpa [A,Rel,aH]using this
    ·refine⟨.slice (some ⟨b,off+l.toNat*M,none⟩) (H.toNat-l.toNat) (C-l.toNat),by simp [k8,nk,bq J,n,z,hc,addr_add],?_⟩
     rw [<-U];refine Rd.nV qk qk (λi hi=>?_) (λi hi=>?_)
     ·rw [U]at hi;rw [a i hi];exact hw _ qk
     ·rw [U]at hi;rw [a i hi]
      have:=hr (l.toNat+i) qk
      rwa [d7,<-et]at this
  ·cases h
 ·rename_i Q
  split at h
  ·rename_i l H g j
   cases h
   obtain⟨T,A,f,d⟩:=aS;have:=aH.aC Z;subst this
   have N:(Nk=none/\l=0)\/∃k,Nk=some (.int k l):=by
    rcases EI g q L with⟨_,h,m⟩|h
    ·exact .inl ⟨h,m⟩
    ·exact .inr h
   have O:(Nl=none/\H=(Q.size:Int))\/∃k,Nl=some (.int k H):=by
    rcases EI j r K with⟨_,h,m⟩|h
    ·exact .inl ⟨h,m⟩
    ·exact .inr h
   have J:=xC T;have n:=qE (P:=P) (w:=w) (b:=false) (len:=Q.size) (cap:=Q.size) N O A f d (a3 _);exact⟨_,by simp [k8,nk,bq J,n],.raw _ rfl⟩
  ·cases h
 ·cases h
end
section
variable {C:Cx}{s:St}{a:Act}{w:World}{E:Env}{P:Program}{row:Nat->Option Row}
def Lp(h:Jw row x=some (vc,v))(H:Rel P w E row u x)(ρ:Operand->Value)(X:Operand)(a:ρ X=u)(o:Oper)(i:o.op= .nilCheck X):
  (execOp ρ o).run P w= .ok (.value u) w/\Rel P w E row u v:=by
 have d:v=x:=by unfold Jw at h;split at h<;>first|(cases h;rfl)|(split at h<;>cases h;rfl)|cases h
 subst d;refine⟨?_,H⟩;unfold Jw at h;unfold execOp;simp only [i,a]
 split at h<;>first|(cases h;done)|skip
 ·obtain⟨b,e,rfl,_⟩:=H;rfl
 ·simp only [Rel]at H;subst H;rfl
 ·split at h<;>cases h
  rename_i s;obtain⟨r,g⟩:=dm.1 s;obtain⟨b,C,_,rfl⟩:=H r g;rfl
 ·obtain⟨f,first,caps,rfl,_⟩:=H;rfl
 ·simp only [Rel]at H;subst H;rfl
 ·have:=aH.aC H;subst this;rfl
 ·cases H;rfl
 ·cases H;rfl
def XV:∀{l:List SV} {T:List Nat} {vs:List Value},caps l=some T->vs.length=l.length->(∀i,i<l.length->Rel P w E row (vs.getD i undef) (l.getD i .dead))->
  vs=T.map λt=>.pointer (some ⟨E.vb t,0,none⟩)
 | [],T,vs,h,H,_=>by simp only [caps,bo]at h;subst h;simpa using H
 |x::l,T,[],h,H,_=>by simp at H
 |x::l,T,v::vs,h,H,b=>by
  unfold caps at h
  split at h
  ·rename_i e;cases e
  ·rename_i t L e
   cases e
   cases a:caps l with
   |none=>simp [a]at h
   |some r=>
    simp [a]at h;subst h;have d:=b 0 qr;simp only [eB,Rel]at d;rw [ap,<-d,<-XV a (uu H) (λi f=>uu (b (i+1) (uu f)))]
  ·cases h
def Ux(w:World)(G:Pub)(vs:List Value)(ds:List PD):Prop:=vs.length=ds.length/\∀j,j<ds.length->Rd w G (vs.getD j undef) (ds.getD j (.ak []))
def aH.cells{v:Value}{d:PD}(h:aH w G v d):Ux w G v.cells.toList d.cells:=by
 cases d with
 |ak D=>
  obtain⟨C,rfl,s,r⟩:=h;refine⟨by simpa [pA,PD.cells]using s,λj H=>?_⟩;simp only [PD.cells]at H;have:=r j H;simpa [pA,PD.cells,aL,ag]using this
 |raw u=>
  have a:v.cells= #[v]:=kc;rw [a];refine⟨rfl,λj H=>?_⟩;have b:j<1:=H;obtain rfl:j=0:=qk;exact h
 |list z D=>
  have a:v.cells= #[v]:=kc;rw [a];refine⟨rfl,λj H=>?_⟩;have b:j<1:=H;obtain rfl:j=0:=qk;exact h
 |clo _ _=>
  have a:v.cells= #[v]:=kc;rw [a];refine⟨rfl,λj H=>?_⟩;have b:j<1:=H;obtain rfl:j=0:=qk;exact h
 |mp _ _=>
  have a:v.cells= #[v]:=kc;rw [a];refine⟨rfl,λj H=>?_⟩;have b:j<1:=H;obtain rfl:j=0:=qk;exact h
 |ptr _=>
  have a:v.cells= #[v]:=kc;rw [a];refine⟨rfl,λj H=>?_⟩;have b:j<1:=H;obtain rfl:j=0:=qk;exact h
 |unk=>
  have a:v.cells= #[v]:=kc;rw [a];refine⟨rfl,λj H=>?_⟩;have b:j<1:=H;obtain rfl:j=0:=qk;exact h
def Ux.splice{vs u:List Value}{ds es:List PD}{off:Nat}(h:Ux w G vs ds)(k:Ux w G u es)(e:off+es.length<=ds.length):
  Ux w G (vs.take off++u++vs.drop (off+u.length)) (ds.take off++es++ds.drop (off+es.length)):=by
 obtain⟨m,a⟩:=h;obtain⟨l,K⟩:=k;refine⟨qz,λj b=>?_⟩;have v:(vs.take off).length=off:=qz;have H:(ds.take off).length=off:=qz;simp only [bd,fa,H]at b;simp only [ag,cD]at*
 by_cases C:j<off
 ·rw [cv qk,cv qk,eD,eD,af C,af C]
  exact a j qk
 ·have g:(vs.take off++(u++vs.drop (off+u.length)))[j]? =(u++vs.drop (off+u.length))[j-off]?:=by rw [dj qk,v]
  have f:(ds.take off++(es++ds.drop (off+es.length)))[j]? =(es++ds.drop (off+es.length))[j-off]?:=by rw [dj qk,H]
  rw [g,f]
  by_cases i:j-off<es.length
  ·rw [cv qk,cv qk]
   exact K _ i
  ·have d:(u++vs.drop (off+u.length))[j-off]? =vs[j]?:=by rw [dj qk,kA];congr 1;omega
   have E:(es++ds.drop (off+es.length))[j-off]? =ds[j]?:=by rw [dj qk,kA];congr 1;omega
   rw [d,E];exact a j qk
def KC(U:List Value):∀(cells:Array Value) (off:Nat),off+U.length<=cells.size->
  ((U.zipIdx).foldl (λcs (p:Value×Nat)=>cs.setIfInBounds (off+p.2) p.1) cells).toList=cells.toList.take off++U++cells.toList.drop (off+U.length):=by
 suffices H:∀(U:List Value) (k:Nat) (cells:Array Value) (off:Nat),off+k+U.length<=cells.size->
   ((U.zipIdx k).foldl (λcs (p:Value×Nat)=>cs.setIfInBounds (off+p.2) p.1) cells).toList=cells.toList.take (off+k)++U++cells.toList.drop (off+k+U.length) by
  intro cells off h;simpa using H U 0 cells off (uu h)
 intro U
 induction U with
 |nil=>intro k cells off _;simp
 |cons u U i=>
  intro k cells off h;simp only [List.length_cons]at h;simp only [List.zipIdx_cons,List.foldl_cons];rw [i (k+1) _ off qz];simp only [pM,List.length_cons];have b:off+k<cells.toList.length:=qz;rw [show off+(k+1)=(off+k)+1 from qk,List.take_set,List.drop_set,af qk,bh b];rw [rf _ _ qz];have a:off+k-(cells.toList.take (off+k)).length=0:=qz;rw [a];simp [et,lO,Nat.add_left_comm]
def XW{t:TypeId}{L:Array Field}(M:P.underlying t=some (.struct L)){places:Array (Nat×Nat)}(l:∀i off f,aX P t i=some (off,f)->aP P f≠0->places[i]? =some (off,aP P f)){G:Pub}:
  ∀(s:List (Nat×PD)) (U:List (Nat×Value)) (zs:List PD) (cs:Array Value) {vc:Prop} {r:List PD},Jy P t zs s=some (vc,r)->vc->Ux w G cs.toList zs->
   U.length=s.length->(∀i,i<s.length->(U.getD i (0,undef)).1=(s.getD i (0,.ak [])).1/\aH w G (U.getD i (0,undef)).2 (s.getD i (0,.ak [])).2)->
   ∃cells,Instr.fill (places[·]?) cs U=some cells/\Ux w G cells.toList r
 | [],U,zs,cs,vc,r,h,_,z,e,_=>by
  simp only [Jy,bo,dz]at h;obtain⟨_,rfl⟩:=h;have:U=[]:=kk (uu e);subst this;exact⟨cs,rfl,z⟩
 |(i,d)::s,[],zs,cs,vc,r,h,_,z,e,_=>by simp at e
 |(i,d)::s,(x,u)::U,zs,cs,vc,r,h,N,z,e,o=>by
  have v:=o 0 qr;simp only [eB]at v;obtain⟨rfl,C⟩:=v;simp only [Jy]at h
  split at h
  ·rename_i off f J
   split at h
   ·rename_i p O b
    cases h
    obtain⟨g,Q,m,D⟩:=N;have q:=aH.cells C;have n:u.cells.toList.length=d.width:=by rw [q.1,PD.bD]
    have K:cs.size=zs.length:=by have:=z.1;simpa using this
    have A:u.cells.size=d.width:=uu n;simp only [Instr.fill,l x off f J g]
    have a:¬((decide (u.cells.size≠aP P f)||decide (off+u.cells.size>cs.size))=true):=by
     simp;omega
    rw [ae a];have k:=KC u.cells.toList cs off qz
    have H:(u.cells.zipIdx.foldl (λcs (p:Value×Nat)=>cs.setIfInBounds (off+p.2) p.1) cs)=((u.cells.toList.zipIdx).foldl (λcs (p:Value×Nat)=>cs.setIfInBounds (off+p.2) p.1) cs):=by
     rw [<-Array.foldl_toList];simp
    refine XW M l s U _ _ b D ?_ (uu e) (λj E=>uu (o (j+1) (uu E)));have:=z.splice q (off:=off) (by rw [PD.bD];exact m);rw [PD.bD]at this;rw [H,k];exact this
   ·cases h
  ·cases h
def QF(a:Operand->Value)(ρ:Operand->SV):∀{l:List (Nat×Operand)} {s:List (Nat×PD)},vU ρ l=some s->(∀p∈l,Rel P w E row (a p.2) (ρ p.2))->
  (l.map λp=>(p.1,a p.2)).length=s.length/\∀i,i<s.length->((l.map λp=>(p.1,a p.2)).getD i (0,undef)).1=(s.getD i (0,.ak [])).1/\aH w E.G ((l.map λp=>(p.1,a p.2)).getD i (0,undef)).2 (s.getD i (0,.ak [])).2
 | [],s,h,_=>by simp only [vU,bo]at h;subst h;simp
 |(i,x)::l,s,h,H=>by
  simp only [vU]at h
  split at h
  ·rename_i d r e g
   cases h
   obtain⟨n,m⟩:=QF a ρ g (λp f=>H p (b3 _ f));have b:=H (i,x) (bk ..);simp only [e]at b;refine⟨uu n,λj k=>?_⟩
   cases j with
   |zero=>exact⟨rfl,b⟩
   |succ j=>simpa using m j (uu k)
  ·cases h
end
end Go.au
