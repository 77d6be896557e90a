/- A part of the proof. -/
import Derived.Test.YtgeljjfmcmbejaaGreatDoorCards
import Derived.Test.YtgeljjfmcmbejaaGreatDoorTie
import Derived.WalkKit
import Derived.ProofKit
import Derived.OpenShut
import Derived.Deep.DeepHandedRow
import Derived.Lib.LaidTab
import Derived.Lib.ItoaNum
import Derived.Stop.LaidErr
import Derived.Test.YtgeljjfmcmbejaaGreatDoorPBase
set_option linter.all false
set_option linter.deprecated false
open Go.Proofs.Tryz renaming prog→aa
open Go.World renaming holding→sl,cells?_some→rx,cell?_spot→sh,cell?→cP
open List renaming range→aw
set_option maxRecDepth 100000
set_option maxHeartbeats 4000000
namespace Go.Proofs.Z
open Go.Proofs.YtgeljjfmcmbejaaGreatDoor
open Go.au Go.ChangeShapes Go.WideShapes Go.ChangeAt Go.RowKit
variable {N:Nat}{t:TypeId}{α:Type}{l:List α}{p:α->Bool}
def asF:ownKnob aa.godebug=none:=qq
def laidOut:laidOutB aa=true:=qq
abbrev TU:List (String×DataW Unit):=[("math/bits.deBruijn32tab",Rows.laid_math_bits_deBruijn32tab),("math/bits.deBruijn64tab",Rows.laid_math_bits_deBruijn64tab),("internal/strconv.uint64pow10",Rows.laid_internal_strconv_uint64pow10),("strconv.ErrRange",Rows.laid_strconv_ErrRange),("strconv.ErrSyntax",Rows.laid_strconv_ErrSyntax)]
def xo:aa.globalNamed "internal/strconv.uint64pow10" =some TB:=qq
def Xq{W:World}(h:laidMetH aa TU W):Lib.TabIs aa W "internal/strconv.uint64pow10" .u64 Lib.pow10Tab:=by
 have h:laidMet aa TU W:=h;have H:=laidMet.tail (laidMet.tail h);exact Lib.tabIs_of_head (t:=310) (e:=129) (n:=20) (rest:=[("strconv.ErrRange",Rows.laid_strconv_ErrRange),("strconv.ErrSyntax",Rows.laid_strconv_ErrSyntax)]) (zs:=Lib.pow10Tab) xo qq qq qq qq qq H
def U4{W:World}(h:laidMetH aa TU W):Go.au.Good W (Pub.heap W):=by
 have H:=Xq h;unfold Lib.TabIs World.var? at H;rw [xo]at H;simp only [Option.bind_some]at H
 cases a:W.heap[TB]? with
 |none=>simp [a]at H
 |some o=>
  cases o with
  |cells C e d=>
   simp only [a,bo]at H;refine⟨λ_ _ h=>h,(bm.1 a).1,e,d,?_⟩;rw [a,H];simp [TA,TV,Lib.pow10Tab]
  |_=>simp [a]at H
def Hw(h:Array Obj)(g:Nat)(c:Array Value):Array Obj:=h.modify g fun
 | .cells _ t frozen=>.cells c t frozen
 |o=>o
abbrev rngS:ByteArray:=⟨#[118,97,108,117,101,32,111,117,116,32,111,102,32,114,97,110,103,101]⟩
abbrev synS:ByteArray:=⟨#[105,110,118,97,108,105,100,32,115,121,110,116,97,120]⟩
noncomputable def low:Nat:=(sl aa default ⟨#[],#[],[]⟩).heap.size
noncomputable def laidWorld (os:Os) (c0 c1 c2:Array Value):World:=
 let w0:=sl aa os ⟨#[.cells #[.string rngS] 308,.cells #[.string synS] 308],#[],[]⟩
 {w0 with heap:=Hw (Hw (Hw (Hw (Hw w0.heap 3 c0) 4 c1) 5 c2) 2 #[.iface 306 (.pointer (some ⟨low,0,none⟩))]) 1 #[.iface 306 (.pointer (some ⟨low+1,0,none⟩))]}
def U5{H:Type}:DataW H->Array Value
 | .agg l=>(l.map λx=>match x with| .lit (.int k n)=>Value.int k n|_=>undef).toArray
 |_=>#[]
noncomputable def LU (os:Os):World:=laidWorld os (U5 (H:=Unit) Rows.laid_internal_strconv_uint64pow10) (U5 (H:=Unit) Rows.laid_math_bits_deBruijn32tab) (U5 (H:=Unit) Rows.laid_math_bits_deBruijn64tab)
section
variable {H:Type}
def GQ(d:DataW H):1<=Rows.uptoBulk d:=by
 cases d with
 |lit l=>cases l<;>simp [Rows.uptoBulk]
 |_=>simp [Rows.uptoBulk]
def LV{d:DataW H}:∀{l:List (DataW H)},d∈l->Rows.uptoBulk d<=Rows.uptoBulkAll l
 | [],h=>xy
 |e::l,h=>by
  simp only [Rows.uptoBulkAll];rcases b8.1 h with rfl|h
  ·omega
  ·have:=LV h;omega
def U6:∀(l:List (DataW H)),l.length<=Rows.uptoBulkAll l
 | []=>qr
 |e::l=>by
  have a:=GQ e;have h:=U6 l;simp only [Rows.uptoBulkAll,List.length_cons];omega
variable (enc:TypeId×Value->H)(P:Program)(w:World)
def oP{α:Type}(N:Nat)(t:TypeId)(sz:Nat)(e:α->PD)(Q:α->Prop):Prop:=
 (∀a,(e a).width=sz)/\∀f,f<=N->∀C x,DataW.trod enc P w 0 (λ_=>true) true f t C=some x->Rows.uptoBulk x.1<=1048576->∃a:α,C.length=sz/\Q a/\∀j,j<sz->Rd w (Pub.heap w) (C.getD j undef) ((e a).cell j)
variable {enc}{P}{w}
def jh{k:IntKind}(H:P.underlying t=some (.int k)):oP enc P w N t 1 (λn:Int=>.raw (.int k n)) (λ_=>True):=by
 refine⟨λ_=>rfl,λf _ C x h _=>?_⟩;obtain⟨a,d,b⟩:=(BB (enc:=enc) (w:=w) H).2 f C x h;exact⟨a,d,trivial,b⟩
def wJ(H:P.underlying t=some .string):oP enc P w N t 1 (λs:ByteArray=>.raw (.string s)) (λs=>s.size<=1048576):=by
 refine⟨λ_=>rfl,λf _ C x h b=>?_⟩
 cases f with
 |zero=>simp [DataW.trod]at h
 |succ m=>
  unfold DataW.trod at h;rw [H]at h
  split at h<;>simp_all
  obtain⟨_,rfl⟩:=h;rename_i s _;simp only [Rows.uptoBulk,Array.length_toList]at b;exact⟨s,by have:s.size=s.data.size:=rfl;omega,.raw _ rfl⟩
def lg{e:TypeId}{sz:Nat}{f:α->PD}{Q:α->Prop}(he:oP enc P w N e sz f Q)(h0:0<sz)(ht:P.underlying t=some (.slice e))(hc:P.cellsOf e=sz):oP enc P w N t 1 (λl:List α=>.list sz (l.map f)) (λl=>l.length<=1048576/\∀y∈l,Q y):=by
 refine⟨λ_=>rfl,λfuel hN cs x h hbk=>?_⟩;rcases DataW.trod_slice ht h with⟨rfl,_⟩|⟨a,len,p,E,rest,n,rfl,rfl,rfl,hb,hl,hm,k,hel,U,_⟩
 ·refine⟨[],rfl,⟨qr,qr⟩,λj g=>?_⟩
  have:j=0:=qk;subst this;exact .nil sz
 ·obtain⟨hrl,r⟩:=U rfl
  simp only [Rows.uptoBulk]at hbk;have hbl:=U6 (E.map (·.1));rw [al]at hbl
  have Z:∀i,i<len->∃y:α,Q y/\∀j,j<sz->∃v,w.cell? (a.add (i*sz+j))=some v/\Rd w (Pub.heap w) v ((f y).cell j):=by
   intro i hi;have M:=hel i hi;have A:i<E.length:=qk;rw [ca A]at M;obtain⟨C,L,h3⟩:=pL.1 M;rw [hc]at L;obtain⟨_,s,H⟩:=rx L;have hbm:=LV (aq.2 ⟨E[i],am A,rfl⟩:E[i].1∈E.map (·.1));obtain⟨y,_,hq,h4⟩:=he.2 n qk C _ h3 qk;refine⟨y,hq,λj g=>?_⟩;have K:=H j qk;have hj2:j<C.length:=qk;refine⟨C.getD j undef,?_,h4 j g⟩;rw [Go.Deep.add_add]at K;simpa [hj2]using K
  by_cases u:p=0
  ·subst u
   have m:len=0:=qk;subst m;refine⟨[],rfl,⟨qr,qr⟩,λj g=>?_⟩;have:j=0:=qk;subst this;exact .empty sz a
  ·have q:a.spot=none:=by
    by_cases d:0<len
    ·obtain⟨y,_,O⟩:=Z 0 d
     obtain⟨v0,T,_⟩:=O 0 h0;have:=sh T;simpa [Addr.add]using this
    ·have M:=r 0 qk
     have X:0<rest.length:=qk;rw [ca X]at M;obtain⟨C,L,h3⟩:=pL.1 M;rw [hc]at L;obtain⟨_,s,H⟩:=rx L;have K:=H 0 qk;rw [ca qk]at K;have:=sh K;have m:len=0:=qk;simpa [Addr.add,m]using this
   obtain⟨b,off,spot⟩:=a;subst q;rcases gj len with d|d
   ·have m:len=0:=qk
    subst m;refine⟨[],rfl,⟨qr,qr⟩,λj g=>?_⟩;have:j=0:=qk;subst this;have:=Rd.nV (w:=w) (G:=Pub.heap w) (sz:=sz) (ds:=[]) (b:=b) (off:=off) (cap:=p) qr hm (λi hi=>wh) (λi hi=>wh);exact this
   have hne:∃y:Nat->α,∀i,i<len->Q (y i)/\∀j,j<sz->∃v,w.cell? ((⟨b,off,none⟩:Addr).add (i*sz+j))=some v/\Rd w (Pub.heap w) v ((f (y i)).cell j):=by
    obtain⟨y0,_⟩:=Z 0 d;refine⟨λi=>if h:i<len then Classical.choose (Z i h)else y0,λi hi=>?_⟩;simp only [hi,dc];exact Classical.choose_spec (Z i hi)
   obtain⟨y,O⟩:=hne;refine⟨(aw len).map y,rfl,⟨qz,λz m=>?_⟩,λj g=>?_⟩
   ·obtain⟨i,hi,rfl⟩:=aq.1 m
    exact(O i (uu hi)).1
   have:j=0:=qk;subst this;have k:(((aw len).map y).map f).length=len:=qr;have D:∀i,i<len->(((aw len).map y).map f).getD i (.ak [])=f (y i):=λi hi=>ym;show Rd w (Pub.heap w) (.slice (some ⟨b,off,none⟩) _ p) (.list sz (((aw len).map y).map f))
   have:=Rd.nV (w:=w) (G:=Pub.heap w) (sz:=sz) (ds:=((aw len).map y).map f) (b:=b) (off:=off) (cap:=p) qk hm (λi hi=>by rw [D i qk];exact he.1 _) (λi hi j g=>by
    have hi:i<len:=qk;rw [D i hi]at g⊢;rw [he.1]at g;obtain⟨v,J,h7⟩:=(O i qk).2 j g
    have J:w.cell? ⟨b,off+i*sz+j,none⟩=some v:=by
     rw [<-J];rw [addr_add];congr 2;omega
    refine⟨?_,v,J,h7⟩;unfold Pub.heap;unfold cP at J
    cases hh:w.heap[b]? with
    |none=>simp [hh]at J
    |some o=>exact(bm.1 hh).1)
   rw [k]at this;exact this
def iK{l:Nat}{s:Array Field}{cs:List Value}{x:DataW H×List MemPlace}(p:P.underlying t=some (.struct s))(h:DataW.trod enc P w 0 (λ_=>true) true l t cs=some x)(D:l<=N+1)(A:Rows.uptoBulk x.1<=1048576):
  cs.length=P.cellsOf t/\∀(i:Nat) (f:Field),s[i]? =some f->∀{α:Type} {sz:Nat} {e:α->PD} {Q:α->Prop},oP enc P w N f.type sz e Q->P.cellsOf f.type=sz->∃a,Q a/\∀j,j<sz->Rd w (Pub.heap w) (cs.getD (f.offset+j) undef) ((e a).cell j):=by
 obtain⟨X,n,rfl,rfl,u,b,o⟩:=DataW.trod_struct p h;refine⟨u,λi f k {α sz e Q} r v=>?_⟩;have m:=o i f k;have g:i<X.length:=by rw [b];exact(bm.1 k).1
 rw [ca g]at m;simp only [Rows.uptoBulk]at A;have z:=LV (aq.2 ⟨X[i],am g,rfl⟩:X[i].1∈X.map (·.1));obtain⟨a,_,q,C⟩:=r.2 n qk _ _ m qk;refine⟨a,q,λj d=>?_⟩;have:=C j d;rw [v]at this
 have E:((cs.drop f.offset).take sz).getD j undef=cs.getD (f.offset+j) undef:=by
  simp [ag,d,kA]
 rwa [E]at this
end
def jC{α:Type}(p:α->Bool)(l:List α):Int:=match l.findIdx? p with|some i=>i|none=>-1
def mZ{k:Nat}(h:k<l.length)(H:(l.take k).any p=false)(a:p l[k]=true):jC p l=k:=by
 have:l.findIdx? p=some k:=by
  rw [jN];refine⟨h,a,λj b=>?_⟩;rw [eW]at H;have:=H l[j] (List.mem_take_iff_getElem.2 ⟨j,qk,rfl⟩);simpa using this
 simp [jC,this]
def ng(h:l.any p=false):jC p l= -1:=by
 have:l.findIdx? p=none:=by
  rw [pN];rw [eW]at h;intro x H;simpa using h x H
 simp [jC,this]
def xO:decide (jC p l>=0)=l.any p:=by
 unfold jC
 cases h:l.findIdx? p with
 |none=>
  rw [pN]at h;have:l.any p=false:=by rw [eW];intro x H;simpa using h x H
  rw [this];decide
 |some i=>
  rw [jN]at h;obtain⟨b,a,_⟩:=h;have:l.any p=true:=gk.2 ⟨l[i],am b,a⟩;rw [this];simp
def decides{α:Type}(enc:α->PD)(p:α->Bool)(l:List α)(es:List PD)(r:PD):Prop:=∃x∈l,es=[enc x]/\r=B (p x)
def Kt(l:List Int)(p:Int->Bool):aG aa 78 [.pd (ints l),.fn (decides I p l)] [I (jC p l)]:=by
 refine aG.mk Tryz.func78 λw G=>?_;refine R.bound 0 (sz:=1) (ds:=l.map I) rfl λhl=>?_;have hl:l.length<=9223372036854775807:=xe
 (refine aJ 40 _ _ ?_;simp only [go_sem,ints])
 refine R.fam (λk:Nat=>⟨19,[(0,.pd (ints l)),(1,.fn (decides I p l)),(7,.pd (I l.length)),(8,.pd (I k))],[],[],[],[]⟩) (λk=>k<=l.length/\(l.take k).any p=false) (λk=>l.length-k) 0 ⟨qk,qr⟩ (by simp only [go_sem,I,ints];rfl) ?_;rintro k ⟨b,H⟩
 (refine aJ 60 _ _ ?_;simp only [go_sem,I])
 refine⟨λh=>?_,λh=>?_⟩
 ·have t:k<l.length:=uu h
  (refine aJ 60 _ _ ?_;simp only [go_sem,ints,I,getD_map,t])
  refine⟨qk,?_⟩;refine R.y rfl (ah xb) (.kN 11 _ _ _ _ (B (p l[k])) rfl rfl rfl ⟨l[k],am t,rfl,rfl⟩) ?_
  (refine aJ 60 _ _ ?_;simp only [go_sem,B])
  refine⟨λa=>?_,λa=>?_⟩
  ·refine ac ?_
   refine R.dS (vc:=True) ?_ trivial;rw [mZ t H a];rfl
  ·(refine aJ 60 _ _ ?_;simp only [go_sem,wrapN (k:=k) qk])
   refine R.nZ (k+1) ⟨qk,?_⟩ va xb;rw [bh t,fk,H];simpa using a
 ·have e:¬k<l.length:=uu h
  refine ac ?_;refine R.dS (vc:=True) ?_ trivial;rw [bi qk]at H;rw [ng H];rfl
def dW(l:List Int)(p:Int->Bool):aG aa 72 [.pd (ints l),.fn (decides I p l)] [B (l.any p)]:=by
 refine aG.mk Tryz.func72 λw G=>?_;refine ac ?_;refine R.lY (Kt l p) rfl rfl (zc (.cons (.fn _) .nil)) qr xb ?_
 (refine aJ 40 _ _ ?_;simp only [go_sem,I])
 refine R.dS (vc:=True) ?_ trivial;rw [<-xO];rfl
def Vv(x:W):(way x).width=2:=rfl
def V0(x:W):(way x).fZ=true:=rfl
def zu(l:List W)(p:W->Bool):aG aa 205 [.pd (.list 2 (l.map way)),.fn (decides way p l)] [I (jC p l)]:=by
 refine aG.mk Tryz.func205 λw G=>?_;refine R.bound 0 (sz:=2) (ds:=l.map way) rfl λhl=>?_;have hl:l.length<=9223372036854775807:=xe;refine ac ?_;refine R.fam (λk:Nat=>⟨19,[(0,.pd (.list 2 (l.map way))),(1,.fn (decides way p l)),(7,.pd (I l.length)),(8,.pd (I k))],[],[],[],[]⟩) (λk=>k<=l.length/\(l.take k).any p=false) (λk=>l.length-k) 0 ⟨qk,qr⟩ j8 ?_;rintro k ⟨b,H⟩
 (refine aJ 60 _ _ ?_;simp only [go_sem,I])
 refine⟨λh=>?_,λh=>?_⟩
 ·have t:k<l.length:=uu h
  (refine aJ 60 _ _ ?_;simp only [go_sem,getD_map,t,Vv,V0])
  refine⟨qk,?_⟩;refine R.y rfl (ah xb) (.kN 11 _ _ _ _ (B (p l[k])) rfl rfl rfl ⟨l[k],am t,rfl,rfl⟩) ?_
  (refine aJ 60 _ _ ?_;simp only [go_sem,B])
  refine⟨λa=>?_,λa=>?_⟩
  ·refine ac ?_
   refine R.dS (vc:=True) ?_ trivial;rw [mZ t H a];rfl
  ·(refine aJ 60 _ _ ?_;simp only [go_sem,wrapN (k:=k) qk])
   refine R.nZ (k+1) ⟨qk,?_⟩ va xb;rw [bh t,fk,H];simpa using a
 ·have e:¬k<l.length:=uu h
  refine ac ?_;refine R.dS (vc:=True) ?_ trivial;rw [bi qk]at H;rw [ng H];rfl
def wK(l:List W)(p:W->Bool):aG aa 121 [.pd (.list 2 (l.map way)),.fn (decides way p l)] [B (l.any p)]:=by
 refine aG.mk Tryz.func121 λw G=>?_;refine ac ?_;refine R.lY (zu l p) rfl rfl (zc (.cons (.fn _) .nil)) qr xb ?_
 (refine aJ 40 _ _ ?_;simp only [go_sem,I])
 refine R.dS (vc:=True) ?_ trivial;rw [<-xO];rfl
def GS(x:Int)(l:List Int):KH (x::l)=if(x !=0)=true then x else KH l:=by
 unfold KH;rw [List.find?_cons];cases h:(x !=0)<;>simp
def tB(l:List Int):aG aa 300 [.pd (ints l)] [I (KH l)]:=by
 refine aG.mk Tryz.func300 λw G=>?_;refine R.bound 0 (sz:=1) (ds:=l.map I) rfl λhl=>?_;have hl:l.length<=9223372036854775807:=xe
 (refine aJ 40 _ _ ?_;simp only [go_sem,ints])
 refine R.fam (λk:Nat=>⟨18,[(3,.pd (I 0)),(6,.pd (ints l)),(7,.pd (I l.length)),(8,.pd (I k))],[],[],[],[]⟩) (λk=>k<=l.length/\KH l=KH (l.drop k)) (λk=>l.length-k) 0 ⟨qk,qr⟩ (by simp only [go_sem,I,ints];rfl) ?_;rintro k ⟨a,H⟩
 (refine aJ 60 _ _ ?_;simp only [go_sem,I])
 refine⟨λh=>?_,λh=>?_⟩
 ·have t:k<l.length:=uu h
  rw [drop_cons t,GS]at H
  (refine aJ 60 _ _ ?_;simp only [go_sem,ints,I,getD_map,t])
  refine⟨qk,λh2=>?_,λh2=>?_⟩
  ·refine ac ?_
   refine R.dS (vc:=True) ?_ trivial;rw [af h2]at H;rw [H];rfl
  ·(refine aJ 60 _ _ ?_;simp only [go_sem,wrapN (k:=k) qk])
   refine R.nZ (k+1) ⟨qk,?_⟩ va xb;rw [ae j7]at H;exact H
 ·have e:¬k<l.length:=uu h
  refine ac ?_;refine R.dS (vc:=True) ?_ trivial;rw [H,cC qk];rfl
def U7(n:Int):aG aa 247 [.pd (I n)] [B false]:=by
 refine aG.mk Tryz.func247 λw G=>?_
 (refine aJ 40 _ _ ?_;simp only [go_sem,I,lh])
 exact R.dS (vc:=True) rfl trivial
def M5(n:Int):aG aa 323 [.pd (I n)] [B false]:=by
 refine aG.mk Tryz.func323 λw G=>?_
 (refine aJ 40 _ _ ?_;simp only [go_sem,I,lh])
 exact R.dS (vc:=True) rfl trivial
def M6(a b:Int):aG aa 219 [.pd (I a),.pd (I b)] [B (decide (a<b))]:=by
 refine aG.mk Tryz.func219 λw G=>?_;refine ac ?_;refine R.lY (U7 a) rfl rfl zd qr xb ?_
 (refine aJ 40 _ _ ?_;simp only [go_sem,B])
 refine R.zJ (f:=247) (args:=[.pd (I b)]) (rs:=[B false]) (b:=false) rfl rfl rfl rfl (λh=>xa) qr xb ?_
 (refine aJ 40 _ _ ?_;simp only [go_sem,B,I])
 exact R.dS (vc:=True) rfl trivial
def Zn(a b:Int):aG aa 151 [.pd (I a),.pd (I b)] [I (dJ a b)]:=by
 refine aG.mk Tryz.func151 λw G=>?_;refine ac ?_;refine R.lY (U7 a) rfl rfl zd qr xb ?_;refine ac ?_;refine R.lY (U7 b) rfl rfl zd qr xb ?_
 (refine aJ 40 _ _ ?_;simp only [go_sem,B])
 refine ac ?_
 (refine aJ 40 _ _ ?_;simp only [go_sem,I])
 refine⟨λh=>?_,λh=>?_⟩
 ·refine ac ?_
  refine R.dS (vc:=True) ?_ trivial;rw [dJ,af (uu h)];rfl
 refine ac ?_;refine⟨λH=>?_,λH=>?_⟩
 ·refine ac ?_
  refine R.dS (vc:=True) ?_ trivial;rw [dJ,ae (uu h),af (uu H)];rfl
 ·refine ac ?_
  refine R.dS (vc:=True) ?_ trivial;rw [dJ,ae (uu h),ae (uu H)];rfl
def C8:aF aa 102:=λ_ _=>qq
def CA(x y:Int)(l m:List Int):cmpL (x::l) (y::m)=if dJ x y=0 then cmpL l m else dJ x y:=by
 rw [cmpL];by_cases h:dJ x y=0<;>simp [h]
def GT(m:List Int):cmpL [] m=if 0<m.length then-1 else 0:=by cases m<;>simp [cmpL]
def Dl(a b:List Int):aG aa 102 [.pd (ints a),.pd (ints b)] [I (cmpL a b)]:=by
 refine aG.mk Tryz.func102 λw G=>?_;refine R.bound 0 (sz:=1) (ds:=a.map I) rfl λhl=>?_;have hl:a.length<=9223372036854775807:=xe
 (refine aJ 40 _ _ ?_;simp only [go_sem,ints])
 refine R.fam (λk:Nat=>⟨36,[(0,.pd (ints a)),(1,.pd (ints b)),(9,.pd (ints a)),(10,.pd (I a.length)),(11,.pd (I k))],[],[],[],[]⟩) (λk=>k<=a.length/\k<=b.length/\cmpL a b=cmpL (a.drop k) (b.drop k)) (λk=>a.length-k) 0 ⟨qk,qk,qr⟩ (by simp only [go_sem,I,ints];rfl) ?_;rintro k ⟨j,g,H⟩
 (refine aJ 60 _ _ ?_;simp only [go_sem,I])
 refine⟨λh=>?_,λh=>?_⟩
 ·have t:k<a.length:=uu h
  rw [drop_cons t]at H
  (refine aJ 60 _ _ ?_;simp only [go_sem,ints,I,getD_map,t])
  refine⟨qk,λd=>?_,λd=>?_⟩
  ·refine ac ?_
   refine R.dS (vc:=True) ?_ trivial;have d:b.length<=k:=uu d;rw [H,cC d];rfl
  ·have d:k<b.length:=uu d
   rw [drop_cons d,CA]at H
   (refine aJ 60 _ _ ?_;simp only [go_sem,I,getD_map,d])
   refine⟨qk,?_⟩;refine R.lY (Zn a[k] b[k]) rfl rfl ze qr xb ?_
   (refine aJ 60 _ _ ?_;simp only [go_sem,I])
   refine⟨λe=>?_,λe=>?_⟩
   ·refine ac ?_
    refine R.dS (vc:=True) ?_ trivial;rw [ae (uu e)]at H;rw [H];rfl
   ·(refine aJ 60 _ _ ?_;simp only [go_sem,wrapN (k:=k) qk])
    refine R.nZ (k+1) ⟨qk,qk,?_⟩ va xb;rw [af (uu e)]at H;exact H
 ·have i:¬k<a.length:=uu h
  have f:k=a.length:=qk;rw [cC (by omega:a.length<=k),GT,fa]at H
  (refine aJ 60 _ _ ?_;simp only [go_sem,ints])
  refine⟨λd=>?_,λd=>?_⟩
  ·refine ac ?_
   refine R.dS (vc:=True) ?_ trivial;have d:a.length<b.length:=uu d;rw [H,af qk];rfl
  ·refine ac ?_
   refine R.dS (vc:=True) ?_ trivial;have d:¬a.length<b.length:=uu d;rw [H,ae qk];rfl
def CC:aF aa 301:=λ_ _=>qq
def KN(a b:W):aG aa 301 [.pd (way a),.pd (way b)] [I (xM a b)]:=by
 refine aG.mk Tryz.func301 λw G=>?_
 (refine aJ 60 _ _ ?_;simp only [go_sem,way])
 refine R.dA 13 60 mixed qv ?_;simp only [go_sem];refine RY.lY (Dl a.pos b.pos) rfl rfl ze qr xb ?_;refine qi ?_;refine RY.lY (Dl a.neg b.neg) rfl rfl ze qr xb ?_;refine qi ?_;have h:=tB [cmpL a.pos b.pos,cmpL a.neg b.neg];simp only [ints,ap,ax]at h;refine RY.lY h rfl rfl zd qr xb ?_;refine qi ?_;refine ac ?_;exact R.dS (vc:=True) rfl trivial
def CD:aF aa 299:=λ_ _=>qq
def Ym(a:W)(h:a.pos.length+a.neg.length<1000000000000):aG aa 297 [.pd (way a)] [I (dX a)]:=by
 refine aG.mk Tryz.func297 λw G=>?_
 (refine aJ 60 _ _ ?_;simp only [go_sem,way,ints,wrap64 (n:=(a.pos.length:Int)+(a.neg.length:Int)) qk qk])
 refine R.dS (vc:=True) ?_ trivial;have:dX a=(a.pos.length:Int)+(a.neg.length:Int):=by simp [dX]
 rw [this];rfl
abbrev SZF:PD:=.raw (.func (.func 297) #[] #[])
def GW(a b:W)(e:a.pos.length+a.neg.length<1000000000000)(d:b.pos.length+b.neg.length<1000000000000):aG aa 299 [.pd (way a),.pd (way b),.ref SZF 0] [I (LK a b)]:=by
 refine aG.mk Tryz.func299 λw G=>?_;have h:IntKind.i64.wrap (dX a-dX b)=dX a-dX b:=wrap64 (by unfold dX;omega) (by unfold dX;omega)
 (refine aJ 60 _ _ ?_;simp only [go_sem,way,SZF])
 refine R.dA 13 60 mixed qv ?_;simp only [go_sem];refine⟨_,.inl ⟨rfl,.iE 6 297 _ _ [.pd (way a)] [I (dX a)] false rfl rfl zd (Ym a e) qr⟩,ah xb,?_⟩;refine qi ?_;refine⟨_,.inl ⟨rfl,.iE 9 297 _ _ [.pd (way b)] [I (dX b)] false rfl rfl zd (Ym b d) qr⟩,ah xb,?_⟩
 (refine bY 60 _ _ ?_;simp only [go_sem,I,h])
 refine RY.lY (KN a b) rfl rfl ze qr xb ?_
 (refine bY 60 _ _ ?_;simp only [go_sem,I])
 have H:=tB [dX a-dX b,xM a b];simp only [ints,ap,ax]at H;refine RY.lY H rfl rfl zd qr xb ?_;refine qi ?_;refine ac ?_;exact R.dS (vc:=True) rfl trivial
def CE:aF aa 355:=λ_ _=>qq
def CF:aF aa 295:=λ_ _=>qq
def CG:aF aa 302:=λ_ _=>qq
def PY{n:Nat}(h:n<9223372036854775808):IntKind.i64.wrap ((IntKind.u64.wrap (n:Int)).fdiv (2 ^ (min (1:Int).toNat IntKind.u64.bits)))=((n/2:Nat):Int):=by
 have a:IntKind.u64.wrap (n:Int)=n:=by
  unfold IntKind.wrap;simp [IntKind.bits,IntKind.signed];omega
 rw [a];have H:(2 ^ (min (1:Int).toNat IntKind.u64.bits):Int)=2:=qu;rw [H,Int.fdiv_eq_ediv_of_nonneg _ qk];rw [wrap64 qk qk];omega
def below(l:List Int)(x:Int):Nat:=l.countP (· <x)
def Ha{l:List Int}{x:Int}{i:Nat}(s:l.Pairwise (· < ·))(hi:i<=l.length)(f:∀m (h:m<l.length),m<i->l[m]<x)(d:∀m (h:m<l.length),i<=m->¬l[m]<x):below l x=i:=by
 have e:l=l.take i++l.drop i:=(cK i l).symm;unfold below;rw [e,kB,m4.2,rj.2]
 ·simp;omega
 ·intro a b
  obtain⟨j,H,rfl⟩:=bN b;rw [lj];simpa using d (i+j) (by simp at H;omega) qk
 ·intro a b
  obtain⟨j,H,rfl⟩:=bN b;rw [li];simpa using f j (by simp at H;omega) (by simp at H;omega)
def Q5(l:List Int)(x:Int)(u:l.Pairwise (· < ·))(J:l.length<1000000000000):aG aa 237 [.pd (ints l),.pd (I x)] [I (below l x),B (l.contains x)]:=by
 refine aG.mk Tryz.func237 λw G=>?_;refine ac ?_;refine R.fU (λ(a:Nat×Nat) s=>St.lp [0,1,4,5,6,10,11,12,31,32,33,34,35,36,37,38,39,40,41,42,43,44,45,46,47,48,49,50,51,52,53] [(7,.pd (I a.1)),(8,.pd (I a.2))] [] [] [] [] s) (λ(a:Nat×Nat)=>a.1<=a.2/\a.2<=l.length/\(∀m (h:m<l.length),m<a.1->l[m]<x)/\(∀m (h:m<l.length),a.2<=m->¬l[m]<x)) (λ(a:Nat×Nat)=>a.2-a.1) ((0,l.length)) (⟨qr,qr,ur,ur⟩) ?_;rintro⟨i,j⟩ ⟨z,v,o,d⟩;simp only at z v o d;refine ac ?_;refine⟨λh=>?_,λh=>?_⟩
 ·have D:i<j:=uu h
  have t:IntKind.i64.wrap ((i:Int)+(j:Int))=((i+j:Nat):Int):=kg;have f:(i+j)/2<l.length:=qk;apply ev8;simp only [ev,ev1,ay,DR,uV,kM,tZ,yu,idx,aO,SV.unbox,iW,St.get,St.put,St.set,lk,up,dN,cxP,mX,sC,sE,sB,cx,Nat.reduceEqDiff,Nat.reduceLT,reduceCtorEq,a7,ba,ia,Option.getD_some,Option.map_some,Option.bind_some,eL,gz,and_self,ne_eq,i9,and_false,al,List.take_succ_cons,List.take_nil,nc,b6,Int.toNat_natCast,a3,ii,Int.natCast_nonneg,eq_self,zq,NU,ag3,Yl,sl35,JK,JL,t,PY (n:=i+j) qk,getD_map,f];refine⟨qu,qk,?_⟩;refine R.kC (M6 l[(i+j)/2] x) rfl rfl ze ?_;refine ac ?_;refine⟨λq=>?_,λq=>?_⟩
  ·have q:l[(i+j)/2]<x:=uu q
   apply ev8;simp only [go_sem,wrapN (k:=(i+j)/2) qk];refine R.fE ((i+j)/2+1,j) ⟨q6,v,λm h g=>?_,d⟩;simp only at g;rcases cn m ((i+j)/2)with c|c
   ·have:=(cB.1 u) m ((i+j)/2) h f c
    omega
   ·have:m=(i+j)/2:=qk
    subst this;exact q
  ·have q:¬l[(i+j)/2]<x:=uu q
   refine ac ?_;refine R.fE (i,(i+j)/2) ⟨q6,q6,o,λm h g=>?_⟩;simp only at g;rcases cn ((i+j)/2) m with c|c
   ·have:=(cB.1 u) ((i+j)/2) m f h c
    omega
   ·have:m=(i+j)/2:=qk
    subst this;exact q
 ·have E:¬i<j:=uu h
  have A:i=j:=qk;subst A;have C:=Ha u v o d
  by_cases p:i<l.length
  ·have e:((i:Int)<(l.length:Int))=True:=uu p
   have H:l.contains x=(l[i]==x):=by
    apply Bool.eq_iff_iff.2;rw [m1,cy];constructor
    ·intro r
     obtain⟨m,f,rfl⟩:=bN r;rcases ll m i with c|c|c
     ·have:=o m f c;omega
     ·subst c;rfl
     ·have K:=(cB.1 u) i m p f c
      have:=d i p (a3 _);omega
    ·rintro rfl;exact am p
   by_cases r:l[i]=x
   ·have b:(l[i]==x)=true:=uu r
    apply aj;simp only [go_sem,↓reduceIte,e,getD_map,p,b];refine R.rC ?_;rw [C,H,b];rfl
   ·have b:(l[i]==x)=false:=uu r
    apply aj;simp only [go_sem,↓reduceIte,e,getD_map,p,b];refine R.kC (M5 l[i]) rfl rfl zd ?_;refine ar ?_;refine R.rC ?_;rw [C,H,b];rfl
  ·have e:((i:Int)<(l.length:Int))=False:=uu p
   have H:l.contains x=false:=by
    rw [Bool.eq_false_iff,ne_eq,m1];intro r;obtain⟨m,f,rfl⟩:=bN r;have:=o m f qk;omega
   refine zw e ?_;refine R.rC ?_;rw [C,H];rfl
def Co.oq{P:Program}{var:Nat->Option (List SV)}{row:Nat->Option Row}{f t:Nat}(d:PD){F:List PD->PD->Prop}(v:var t=some (d.cells.map .pd))(a:aF P f)(h:∀es r,F es r->aG P f (es.map .pd++[.ref d 0]) [r]):Co P var row (.clo f [t]) (.fn F) true:=
 .clo f [t] [d] F (.clo f [t] [d] rfl (λ_=>d.cells.map .pd) (λi H=>by
  obtain rfl:i=0:=uu H;exact⟨v,by simp [PD.bD]⟩) (λi j H hj=>by
  obtain rfl:i=0:=uu H;have hj:j<d.width:=hj
  have e:(d.cells.map SV.pd).getD j .dead= .pd (d.cell j):=by
   rw [<-PD.jy d j hj];have:j<d.cells.length:=ww;simp [this]
  show Cv var row ((d.cells.map SV.pd).getD j .dead) (d.cell j);rw [e];exact .pd _)) a h
def Zo(b:List Int)(x:Int)(h:b.Pairwise (· < ·))(H:b.length<1000000000000):aG aa 355 [.pd (I x),.ref (ints b) 0] [B (!b.contains x)]:=by
 refine aG.mk Tryz.func355 λw G=>?_;refine ac ?_;refine R.kC (Q5 b x h H) rfl rfl ze ?_;refine ac ?_;refine R.rC ?_;rfl
def Hy(a b:List Int)(h:b.Pairwise (· < ·))(H:b.length<1000000000000):aG aa 296 [.pd (ints a),.pd (ints b)] [B (a.all (b.contains ·))]:=by
 refine aG.mk Tryz.func296 λw G=>?_;refine ac ?_;refine R.kC (dW a (λx=>!b.contains x)) rfl rfl (zc (.cons (Co.oq (ints b) rfl CE (by rintro e r ⟨x,_,rfl,rfl⟩;exact Zo b x h H)) (.nil))) ?_;refine ac ?_;refine R.rC ?_;have:(!a.any λx=>!b.contains x)=a.all (b.contains ·):=by simp [List.any_eq_not_all_not]
 rw [<-this];rfl
def Hb(v:W)(x:Int)(h:v.neg.Pairwise (· < ·))(H:v.neg.length<1000000000000):aG aa 295 [.pd (I x),.ref (way v) 0] [B (v.neg.contains x)]:=by
 refine aG.mk Tryz.func295 λw G=>?_;refine ac ?_;refine R.kC (Hy [x] v.neg h H) rfl rfl ze ?_;refine ac ?_;refine R.rC ?_;have:[x].all (v.neg.contains ·)=v.neg.contains x:=qr;rw [<-this];rfl
def M7(a b:W)(H:Norm b)(l:b.pos.length+b.neg.length<1000000000000):aG aa 302 [.pd (way a),.ref (way b) 0] [B (iU a b)]:=by
 refine aG.mk Tryz.func302 λw G=>?_;refine ac ?_;refine R.kC (Hy a.pos b.pos H.1 qk) rfl rfl ze ?_
 cases h:a.pos.all (b.pos.contains ·)with
 |true=>
  (refine ar ?_)
  refine R.kC (Hy a.neg b.neg H.2 qk) rfl rfl ze ?_;refine ar ?_;refine R.rC ?_;simp only [iU,h,eJ];rfl
 |false=>
  (refine ar ?_)
  refine R.rC ?_;simp only [iU,h,Bool.false_and];rfl
end Go.Proofs.Z
namespace Go.au
variable {P:Program}{f:FuncId}{args:List SV}{rs:List PD}{C:Cx}{k:List KI}{s:St}
def SV.fA(t:Nat)(d:PD):SV->SV
 | .aA T o=>if T=t then .ref d o else .aA T o
 | .nT T n=>if T=t then(if n=d.width then .pd (.list 1 d.cells)else .dead)else .nT T n
 | .clo f s=>if s=[t]then .pd (.clo f [d])else if s.contains t then .dead else .clo f s
 | .gd c v=>.gd c (v.fA t d)
 | .gV i v=>.gV i (v.fA t d)
 |v=>v
def St.fA(s:St)(t:Nat)(d:PD):St:=
 {s with slots:=s.slots.map λp=>(p.1,p.2.fA t d),vars:=er t (s.vars.map λp=>(p.1,p.2.map (SV.fA t d))),gs:=s.gs.map λp=>(p.1,p.2.fA t d)}
def SV.Hc(t:Nat)(d:PD)(v:SV)(cs:List Value)(h:v.fA t d= .box cs):v= .box cs:=by
 cases v with
 |aA T o=>simp only [SV.fA]at h;split at h<;>cases h
 |nT T n=>simp only [SV.fA]at h;split at h
          ·split at h<;>cases h
          ·cases h
 |clo f s=>simp only [SV.fA]at h;split at h; · cases h
           split at h<;>cases h
 |_=>first|exact h|cases h
section
variable {C:Cx}{s:St}{a:Act}{w w':World}{E:Env}{P:Program}{k:List KI}
def St.U9(s:St)(t:Nat)(d:PD)(j:Nat):(s.fA t d).get j=(s.get j).fA t d:=by
 simp only [St.get,St.fA,dh];cases lk j s.slots<;>rfl
def St.CH(s:St)(t:Nat)(d:PD)(j:Nat):(s.fA t d).dR j=(s.dR j).fA t d:=by
 simp only [St.dR,St.fA,dh];cases lk j s.gs<;>rfl
def aB.fA(g:aB C s a w E){t:Nat}{d:PD}(hv0:C.vb0 t=none)(hw:C.w0.heap.size<=E.vb t)(hv:s.var t=some (d.cells.map .pd)):∃E',aB C (s.fA t d) a w E':=by
 let G':Pub:=λb o=>E.G b o\/b=E.vb t
 have Q:Keeps w E.G w G':=.same λ_ _ h=>.inl h;obtain⟨r,e,m,hs,hr⟩:=g.vars t _ hv
 have O:lD w G' (E.vb t) 0 d:=by
  intro j hj;have hj2:j<(d.cells.map SV.pd).length:=by simpa [PD.bD]using hj
  obtain⟨H,D⟩:=hr j hj2
  have e1:(d.cells.map SV.pd).getD j .dead= .pd (d.cell j):=by
   rw [<-PD.jy d j hj];have:j<d.cells.length:=ww;simp [this]
  rw [e1]at D;refine⟨.inr rfl,r.getD j undef,?_,(aH.one D H).keep Q⟩;have K:j<r.size:=cj hj2 hs.1;simp only [cP,m.2.2,cx];simp [Array.getD,K]
 have q:∀j c,(s.fA t d).var j=some c->j≠t/\∃c0,s.var j=some c0/\c=c0.map (SV.fA t d):=by
  intro j c h;simp only [St.var,St.fA,TJ,dh]at h
  split at h
  ·cases h
  ·rename_i N
   cases P:lk j s.vars with
   |none=>simp [P]at h
   |some c0=>simp [P]at h;exact⟨N,c0,P,h.symm⟩
 have z:∀j c,(s.fA t d).get j= .box c->s.get j= .box c:=by
  intro j c h;rw [St.U9]at h;exact SV.Hc t d _ _ h
 have mn:∀b r e,b≠E.vb t->Mine C E.G w b r e->Mine C G' w b r e:=λb r e N m=>
  ⟨m.1,λo h=>by rcases h with h|h;exact m.2.1 o h;exact N h,m.2.2⟩
 have M:∀v x,Rel C.P w E s.row v x->Rel C.P w {E with G:=G'} s.row v (x.fA t d):=by
  intro v x
  induction x generalizing v with
  |aA X o=>
   intro h;simp only [SV.fA]
   split
   ·rename_i L;subst L;exact⟨E.vb X,0,by simpa [Rel]using h,O⟩
   ·exact h
  |clo f ts=>
   intro h;simp only [SV.fA]
   split
   ·rename_i L;subst L
    simp only [Rel,ap,ax]at h;subst h;refine .clo f [d] [(E.vb t,0)] (λi j=>r.getD j undef) rfl (λi j A hj=>?_) (λi j A hj=>?_) (λi j A hj=>?_)
    ·obtain rfl:i=0:=uu A
     exact .inr rfl
    ·obtain rfl:i=0:=uu A
     obtain⟨_,v,H,D⟩:=O j hj;have K:j<r.size:=cj (by simpa [PD.bD]using hj) hs.1;simp only [eB,cP,m.2.2,cx];simp [Array.getD,K]
    ·obtain rfl:i=0:=uu A
     have hj:j<d.width:=hj;obtain⟨_,v,H,D⟩:=O j hj;have K:j<r.size:=cj (by simpa [PD.bD]using hj) hs.1
     have:v=r.getD j undef:=by
      simp only [cP,m.2.2,cx]at H;simp [K]at H;simp [Array.getD,K,H]
     rw [<-this];exact D
   ·split
    ·trivial
    ·exact h
  |gd c x ih=>exactλh hc=>ih _ (h hc)
  |gV i x ih=>rintro⟨u,e,h⟩;exact⟨u,e,ih _ h⟩
  |dead=>exactλ_=>trivial
  |pd d=>exactλh=>aH.keep Q h
  |ref d off=>rintro⟨b,base,e,h⟩;exact⟨b,base,e,h.keep Q⟩
  |own id=>exactλh=>h
  |dP id i off=>exactλh=>h
  |view id k=>exactλh=>h
  |nT X n=>
   intro h;simp only [SV.fA]
   split
   ·rename_i L
    split
    ·rename_i hn
     subst L;obtain⟨T,H,D,rfl⟩:=h;rw [hn,<-PD.bD];refine(Rd.nV (by rw [PD.bD,<-hn];exact H) D (λi A=>?_) λi A=>?_).tV
     ·rw [PD.bD]at A
      obtain⟨_,u,_,hu⟩:=O i A;rw [PD.jy d i A];exact hu.width
     ·rw [PD.bD]at A
      obtain⟨hp,u,hc,hu⟩:=O i A;rw [PD.jy d i A];intro j hj;rw [hu.width]at hj;obtain rfl:j=0:=qk;simp only [cx]at hp hc;exact⟨uu hp,u,uu hc,by rw [hu.cell0];exact hu⟩
    ·trivial
   ·exact h
  |tpl ds=>rintro⟨vs,e,hs,h⟩;exact⟨vs,e,hs,λj hj=>(h j hj).keep Q⟩
  |fn F=>exactλh=>qx.keep Q h
  |box _=>exactλ_=>trivial
 refine⟨{E with G:=G'},?_⟩
 exact{
  kept:=g.kept
  aZ:=g.aZ
  bM:=g.bM
  maps:=λb mm h=>(g.maps b mm h).keep Q (λhn o ho=>by
   rcases ho with ho|ho
   ·exact hn o ho
   ·subst ho
    have hm:=g.maps _ mm h
    cases mm with
    |map mp=>obtain⟨_,es,clock,H,_⟩:=hm;rw [m.2.2]at H;cases H
    |it r' l c=>obtain⟨_,_,_,_,_,_,H,_⟩:=hm;rw [m.2.2]at H;cases H
    |gone=>obtain⟨_,x,H,D⟩:=hm;rw [m.2.2]at H;cases H;exact D _ _ _ rfl
    |obj x=>obtain⟨_,H,D⟩:=hm;rw [m.2.2]at H;cases H;exact D _ _ _ rfl) (λ_ _ hx _=>hx)
  bI:=g.bI
  defers:=g.defers
  size:=g.size
  g0:=λb o h=>.inl (g.g0 b o h)
  g1:=λb o h=>by
   rcases h with h|h
   ·exact g.g1 b o h
   ·subst h;exact .inr hw
  tab:=g.tab.keep Q
  gw:=λb o h=>by
   rcases h with h|h
   ·exact g.gw b o h
   ·subst h;exact m.lt
  slots:=λj=>by rw [St.U9];exact M _ _ (g.slots j)
  aV:=λj=>by rw [St.CH];exact M _ _ (g.aV j)
  vars:=λj c h=>by
   obtain⟨N,c0,P,rfl⟩:=q j c h;obtain⟨uJ,e0,Z,hs0,hr0⟩:=g.vars j c0 P;refine⟨uJ,e0,mn _ _ _ (λL=>N (g.vv j t c0 _ P hv L)) Z,uu hs0,λi A=>?_⟩;rw [dB _ rfl];have:=hr0 i (uu A);exact⟨this.1,M _ _ this.2⟩
  rows:=λj r' h=>by
   rcases g.rows j r' h with h|⟨b,T,uJ,H,Z,D,h3,h4,h5,h6⟩
   ·exact .inl h
   ·exact .inr ⟨b,T,uJ,H,mn _ _ _ (λL=>g.vr t _ j r' (b,T) hv h H L.symm) Z,D,h3,h4,h5,λk j hk' hj=>(h6 k j hk' hj).keep Q⟩
  boxes:=λj c h=>by
   have J:=z j c h;obtain⟨H,⟨e0,Z⟩,D⟩:=g.boxes j c J;exact⟨H,⟨e0,mn _ _ _ (λL=>g.bv j t c _ J hv L) Z⟩,D⟩
  vv:=λj j' c U h J L=>by
   obtain⟨_,_,h,_⟩:=q j c h;obtain⟨_,_,J,_⟩:=q j' U J;exact g.vv j j' _ _ h J L
  rr:=g.rr
  vr:=λj c i r1 p h J=>by obtain⟨_,c0,P,_⟩:=q j c h;exact g.vr j c0 i r1 p P J
  bb:=λj j' c U h J=>g.bb j j' c U (z j c h) (z j' U J)
  bv:=λj X c U h J=>by obtain⟨_,c0,P,_⟩:=q X U J;exact g.bv j X c c0 (z j c h) P
  br:=λj c i r1 p h J=>g.br j c i r1 p (z j c h) J}
def R.fA(t:Nat)(d:PD)(H:C.vb0 t=none)(u:∀r,C.mu r->False)(v:s.var t=some (d.cells.map .pd))(h:R C k (s.fA t d)):R C k s:=λa w E g=>by
 obtain⟨f,e,m,_⟩:=g.vars t _ v;have b:C.w0.heap.size<=E.vb t:=by rcases m.1 with h|h;exact h;exact(u _ h).elim
 obtain⟨i,G⟩:=g.fA H b v;exact h a w i G
end
structure AO(P:Program) where
 f:FuncId
 args:List SV
 rs:List PD
 ok:aG P f args rs
def AO.of{P:Program}{f:FuncId}{args:List SV}{rs:List PD}(h:aG P f args rs):AO P:=⟨f,args,rs,h⟩
def V1(h:aG P f args rs):(AO.of h).f=f:=rfl
def IP(h:aG P f args rs):(AO.of h).args=args:=rfl
def P4(h:aG P f args rs):(AO.of h).rs=rs:=rfl
def Hz:List SV->Bool
 | []=>true
 | .pd _::l=>Hz l
 | .ref _ _::l=>Hz l
 |_=>false
def HY{P:Program}{var:Nat->Option (List SV)}{row:Nat->Option Row}:∀{l:List SV},Hz l=true->iD P var row l l false
 | [],_=>.nil
 | .pd d::l,h=>.cons (b:=false) (.pd d) (HY (l:=l) h)
 | .ref d o::l,h=>.cons (b:=false) (.ref d o) (HY (l:=l) h)
def Gv(C:Cx)(cs:List (Nat×AO C.P))(all:Array Oper)(o:Oper)(l:List Oper)(k:List KI)(s:St)(K:St->Prop):Prop:=
 match o.op with
 | .call c=>match c.callee with
  | .value (.func f)=>match o.dst with
   |some t=>match lk t cs with
    |some q=>q.f=f/\q.args=c.args.toList.map (aO s)/\Hz q.args=true/\t<s.n/\K (s.set t (eX q.rs))
    |none=>ev1 C all o l k s K
   |none=>ev1 C all o l k s K
  |_=>ev1 C all o l k s K
 |_=>ev1 C all o l k s K
def NZ{cs:List (Nat×AO C.P)}{all:Array Oper}{o:Oper}{l:List Oper}{K:St->Prop}(H:o.guard=none)(a:∀s',K s'->R C (.ops all l::k) s')(h:Gv C cs all o l k s K):R C (.ops all (o::l)::k) s:=by
 unfold Gv at h
 split at h
 ·rename_i c j
  split at h
  ·rename_i f i
   split at h
   ·rename_i t b
    split at h
    ·rename_i q p
     obtain⟨rfl,e,d,n,m⟩:=h;refine R.y H (λT g=>by rw [b]at g;cases g;exact n) (.call q.f c.args c.argTypes q.args q.rs false (by rw [j,<-i]) (by rw [e]at d;rw [e];exact HY d) q.ok qr) ?_;rw [b];exact a _ m
    ·exact Az H a h
   ·exact Az H a h
  ·exact Az H a h
 ·exact Az H a h
def BX(C:Cx)(cs:List (Nat×AO C.P)):Nat->List KI->St->Prop
 |0,k,s=>R C k s
 |_+1,[],s=>R C [] s
 |n+1,.inBlock _::k,s=>BX C cs n k s
 |_+1,.aU J::k,s=>R C (.aU J::k) s
 |n+1,.ops _ []::k,s=>BX C cs n k s
 |n+1,.ops a (o::l)::k,s=>match o.guard with
  |none=>Gv C cs a o l k s λf=>BX C cs n (.ops a l::k) f
  |some (j,d)=>match(a[j]?).bind (·.dst)with
   |some t=>match s.get t with
    | .pd (.raw (.bool c))=>match ay C.P (yI s) s.var s.row o.op with
     |some (e,v)=>((c==d)=true->e)/\qF (c==d) (o.op.operands.toList.map (aO s))/\dN s o/\BX C cs n (.ops a l::k) (s.put o.dst (.gd (c==d) v.unbox))
     |none=>R C (.ops a (o::l)::k) s
    |_=>R C (.ops a (o::l)::k) s
   |none=>R C (.ops a (o::l)::k) s
 |n+1,.code c::k,s=>match c with
  | .seq x y=>BX C cs n (.code x :: .code y::k) s
  | .skip=>BX C cs n k s
  | .block id c=>BX C cs n (.code c :: .inBlock id::k) s
  | .exit id=>match jS id k with
   |some K=>BX C cs n K s
   |none=>R C (.code (.exit id)::k) s
  | .cond (.tmp t) x y=>match s.get t with
   | .pd (.raw (.bool b))=>(b=true->R C (.code x::k) s)/\(b=false->R C (.code y::k) s)
   |_=>R C (.code (.cond (.tmp t) x y)::k) s
  | .region _ O false=>BX C cs n (.ops O O.toList::k) s
  |c=>R C (.code c::k) s
def jW{C:Cx}{cs:List (Nat×AO C.P)}:∀(n:Nat) (k:List KI) (s:St),BX C cs n k s->R C k s
 |0,k,s,h=>h
 |_+1,[],s,h=>h
 |n+1,.inBlock _::k,s,h=>R.inBlock (jW n k s h)
 |_+1,.aU J::k,s,h=>h
 |n+1,.ops _ []::k,s,h=>R.nil (jW n k s h)
 |n+1,.ops D (o::l)::k,s,h=>by
  simp only [BX]at h
  split at h
  ·rename_i H
   exact NZ H (λe A=>jW n _ e A) h
  ·rename_i j a H
   split at h
   ·rename_i t g
    split at h
    ·rename_i c m
     split at h
     ·rename_i d v q
      obtain⟨z,x,u,r⟩:=h;exact R.yg H g m (ah u) (λf=>⟨x,.op d v q (z f)⟩) (jW n _ _ r)
     ·exact h
    ·exact h
   ·exact h
 |n+1,.code c::k,s,h=>by
  unfold BX at h
  split at h
  ·exact R.seq (jW n _ s h)
  ·exact R.skip (jW n _ s h)
  ·exact R.block (jW n _ s h)
  ·split at h
   ·rename_i K i;exact R.exit i (jW n _ s h)
   ·exact h
  ·split at h
   ·rename_i b p;exact R.cond p h.1 h.2
   ·exact h
  ·exact R.region (jW n _ s h)
  ·exact h
def wL(P:Program)(fn:Func)(w:World)(G:Pub)(rs:List PD)(cs:List (Nat×AO P)):Nat->List KI->St->Prop
 |0,k,s=>R (Cx.fn P fn w G rs) k s
 |_+1,[],s=>match resD P s fn.results.toList with
  |some (e,r)=>e/\r=rs
  |none=>R (Cx.fn P fn w G rs) [] s
 |n+1,.inBlock _::k,s=>wL P fn w G rs cs n k s
 |_+1,.aU J::k,s=>R (Cx.fn P fn w G rs) (.aU J::k) s
 |n+1,.ops _ []::k,s=>wL P fn w G rs cs n k s
 |n+1,.ops a (o::l)::k,s=>match o.guard with
  |none=>Gv (Cx.fn P fn w G rs) cs a o l k s λf=>wL P fn w G rs cs n (.ops a l::k) f
  |some (j,d)=>match(a[j]?).bind (·.dst)with
   |some t=>match s.get t with
    | .pd (.raw (.bool c))=>match ay P (yI s) s.var s.row o.op with
     |some (e,v)=>((c==d)=true->e)/\qF (c==d) (o.op.operands.toList.map (aO s))/\dN s o/\wL P fn w G rs cs n (.ops a l::k) (s.put o.dst (.gd (c==d) v.unbox))
     |none=>R (Cx.fn P fn w G rs) (.ops a (o::l)::k) s
    |_=>R (Cx.fn P fn w G rs) (.ops a (o::l)::k) s
   |none=>R (Cx.fn P fn w G rs) (.ops a (o::l)::k) s
 |n+1,.code c::k,s=>match c with
  | .seq x y=>wL P fn w G rs cs n (.code x :: .code y::k) s
  | .skip=>wL P fn w G rs cs n k s
  | .block id c=>wL P fn w G rs cs n (.code c :: .inBlock id::k) s
  | .exit id=>match jS id k with
   |some K=>wL P fn w G rs cs n K s
   |none=>R (Cx.fn P fn w G rs) (.code (.exit id)::k) s
  | .ret=>match resD P s fn.results.toList with
   |some (e,r)=>e/\r=rs
   |none=>R (Cx.fn P fn w G rs) (.code .ret::k) s
  | .cond (.tmp t) x y=>match s.get t with
   | .pd (.raw (.bool b))=>(b=true->wL P fn w G rs cs n (.code x::k) s)/\(b=false->wL P fn w G rs cs n (.code y::k) s)
   |_=>R (Cx.fn P fn w G rs) (.code (.cond (.tmp t) x y)::k) s
  | .region _ O false=>wL P fn w G rs cs n (.ops O O.toList::k) s
  |c=>R (Cx.fn P fn w G rs) (.code c::k) s
def lJ{P:Program}{fn:Func}{w:World}{G:Pub}{rs:List PD}(cs:List (Nat×AO P)):∀(n:Nat) (k:List KI) (s:St),wL P fn w G rs cs n k s->R (Cx.fn P fn w G rs) k s
 |0,k,s,h=>h
 |_+1,[],s,h=>by
  unfold wL at h
  split at h
  ·rename_i a r d;obtain⟨H,rfl⟩:=h;exact R.us d H
  ·exact h
 |n+1,.inBlock _::k,s,h=>R.inBlock (lJ cs n k s h)
 |_+1,.aU J::k,s,h=>h
 |n+1,.ops _ []::k,s,h=>R.nil (lJ cs n k s h)
 |n+1,.ops L (o::l)::k,s,h=>by
  simp only [wL]at h
  split at h
  ·rename_i g
   exact NZ g (λi K=>lJ cs n _ i K) h
  ·rename_i j f g
   split at h
   ·rename_i t p
    split at h
    ·rename_i c u
     split at h
     ·rename_i a v z
      obtain⟨E,D,C,A⟩:=h;exact R.yg g p u (ah C) (λm=>⟨D,.op a v z (E m)⟩) (lJ cs n _ _ A)
     ·exact h
    ·exact h
   ·exact h
 |n+1,.code c::k,s,h=>by
  unfold wL at h
  split at h
  ·exact R.seq (lJ cs n _ s h)
  ·exact R.skip (lJ cs n _ s h)
  ·exact R.block (lJ cs n _ s h)
  ·split at h
   ·rename_i M q;exact R.exit q (lJ cs n _ s h)
   ·exact h
  ·split at h
   ·rename_i a r d;obtain⟨H,rfl⟩:=h;exact R.dS d H
   ·exact h
  ·split at h
   ·rename_i b x;exact R.cond x (λe=>lJ cs n _ s (h.1 e)) (λe=>lJ cs n _ s (h.2 e))
   ·exact h
  ·exact R.region (lJ cs n _ s h)
  ·exact h
def aI(h:BX C [] 80 k s):R C k s:=jW 80 k s h
def ai{Q:Prop}(q:Q)(h:Q->BX C [] 80 k s:=by simp only [go_sem];exactλh=>h):R C k s:=aI (h q)
attribute [go_sem] BX Gv V1 IP P4 Hz
def R.known{t:Nat}{c b:Bool}(H:s.get t= .pd (.raw (.bool c)))(e:c=b)(h:R C k (s.set t (.pd (.raw (.bool b))))):R C k s:=by
 subst e;refine R.weak (s':=s.set t (.pd (.raw (.bool c)))) ⟨rfl,λj=>?_,λt a h=>⟨a,h,rfl,λ_ _=>.same _⟩,λ_ _ h=>h,λ_ _ h=>h,λ_=>.same _⟩ h;rw [St.fO]
 split
 ·rename_i e;subst e;rw [H];exact .same _
 ·exact .same _
def eF(C:Cx)(cs:List (Nat×AO C.P))(r:St->Prop):Nat->List KI->St->Prop
 |0,k,s=>R C k s
 |_+1,[],s=>r s
 |n+1,.inBlock _::k,s=>eF C cs r n k s
 |_+1,.aU J::k,s=>R C (.aU J::k) s
 |n+1,.ops _ []::k,s=>eF C cs r n k s
 |n+1,.ops a (o::l)::k,s=>match o.guard with
  |none=>Gv C cs a o l k s λe=>eF C cs r n (.ops a l::k) e
  |some (j,d)=>match(a[j]?).bind (·.dst)with
   |some t=>match s.get t with
    | .pd (.raw (.bool c))=>if c=d then Gv C cs a {o with guard:=none} l k (s.set t (.pd (.raw (.bool d)))) (λe=>eF C cs r n (.ops a l::k) e)
      else dN s o/\eF C cs r n (.ops a l::k) ((s.set t (.pd (.raw (.bool !d)))).put o.dst (.tpl []))
    | .tpl []=>dN s o/\eF C cs r n (.ops a l::k) (s.put o.dst (.tpl []))
    |_=>R C (.ops a (o::l)::k) s
   |none=>R C (.ops a (o::l)::k) s
 |n+1,.code c::k,s=>match c with
  | .seq x y=>eF C cs r n (.code x :: .code y::k) s
  | .skip=>eF C cs r n k s
  | .block id c=>eF C cs r n (.code c :: .inBlock id::k) s
  | .exit id=>match jS id k with
   |some K=>eF C cs r n K s
   |none=>R C (.code (.exit id)::k) s
  | .ret=>r s
  | .cond (.tmp t) x y=>match s.get t with
   | .pd (.raw (.bool b))=>if b=true then eF C cs r n (.code x::k) (s.set t (.pd (.raw (.bool true))))else eF C cs r n (.code y::k) (s.set t (.pd (.raw (.bool false))))
   |_=>R C (.code (.cond (.tmp t) x y)::k) s
  | .region _ O false=>eF C cs r n (.ops O O.toList::k) s
  |c=>R C (.code c::k) s
def lK{C:Cx}{cs:List (Nat×AO C.P)}{r:St->Prop}(H:∀k s,r s->R C (.code .ret::k) s)(d:∀s,r s->R C [] s):∀(n:Nat) (k:List KI) (s:St),eF C cs r n k s->R C k s
 |0,k,s,h=>h
 |_+1,[],s,h=>d s h
 |n+1,.inBlock _::k,s,h=>R.inBlock (lK H d n k s h)
 |_+1,.aU J::k,s,h=>h
 |n+1,.ops _ []::k,s,h=>R.nil (lK H d n k s h)
 |n+1,.ops A (o::l)::k,s,h=>by
  simp only [eF]at h
  split at h
  ·rename_i g
   exact NZ g (λm u=>lK H d n _ m u) h
  ·rename_i j a g
   split at h
   ·rename_i t p
    split at h
    ·rename_i c i
     split at h
     ·rename_i e
      refine R.known i e ?_;have f:(s.set t (.pd (.raw (.bool a)))).get t= .pd (.raw (.bool a)):=by rw [St.fO,af rfl]
      exact R.om g p f qr (NZ rfl (λm u=>lK H d n _ m u) h)
     ·rename_i e
      have E:c=!a:=by cases c<;>cases a<;>simp_all
      refine R.known i E ?_;have f:(s.set t (.pd (.raw (.bool !a)))).get t= .pd (.raw (.bool !a)):=by rw [St.fO,af rfl]
      exact R.gno g p f (by cases a<;>rfl) (ah (s:=s.set t (.pd (.raw (.bool !a)))) h.1) (lK H d n _ _ h.2)
    ·rename_i i
     exact R.u3 g p i (ah h.1) (lK H d n _ _ h.2)
    ·exact h
   ·exact h
 |n+1,.code c::k,s,h=>by
  unfold eF at h
  split at h
  ·exact R.seq (lK H d n _ s h)
  ·exact R.skip (lK H d n _ s h)
  ·exact R.block (lK H d n _ s h)
  ·split at h
   ·rename_i K v;exact R.exit v (lK H d n _ s h)
   ·exact h
  ·exact H k s h
  ·rename_i t x y
   split at h
   ·rename_i b q
    refine R.cond q (λe=>?_) (λe=>?_)
    ·rw [af e]at h;exact R.known q e (lK H d n _ _ h)
    ·rw [ae (by simp [e])]at h;exact R.known q e (lK H d n _ _ h)
   ·exact h
  ·exact R.region (lK H d n _ s h)
  ·exact h
def jr(P:Program)(fn:Func)(rs:List PD)(s:St):Prop:=match resD P s fn.results.toList with
 |some (v,r)=>v/\r=rs
 |none=>False
def dD{fn:Func}{w:World}{G:Pub}(cs:List (Nat×AO P))(n:Nat)(k:List KI)(s:St)(h:eF (Cx.fn P fn w G rs) cs (jr P fn rs) n k s):R (Cx.fn P fn w G rs) k s:=by
 refine lK (λk s h=>?_) (λs h=>?_) n k s h
 all_goals
  unfold jr at h
  split at h
  ·rename_i v r a;obtain⟨H,rfl⟩:=h
   first|exact R.dS a H|exact R.us a H
  ·exact h.elim
def Yn{fn:Func}{w:World}{G:Pub}(cs:List (Nat×AO P))(n:Nat)(k:List KI)(s:St)(h:eF (Cx.DU P fn w G rs) cs (jr P fn rs) n k s):R (Cx.DU P fn w G rs) k s:=by
 refine lK (λk s h=>?_) (λs h=>?_) n k s h
 all_goals
  unfold jr at h
  split at h
  ·rename_i v r a;obtain⟨H,rfl⟩:=h
   first|exact R.oj a H|exact R.SP a H
  ·exact h.elim
end Go.au
namespace Go.Proofs.Z
open Go.Proofs.YtgeljjfmcmbejaaGreatDoor
structure V where
 kind:Int
 n:Int
 text:ByteArray
deriving DecidableEq
def V.zero:V:=⟨0,0,ByteArray.empty⟩
structure Attr where
 name:ByteArray
 kind:Int
 was:List ByteArray
 dflt:V
deriving DecidableEq
structure dO where
 name:ByteArray
 attrs:List Attr
 key:List Int
structure Side where
 var:Int
 col:Int
 val:V
structure AP where
 left:Side
 op:Int
 right:Side
 add:Int
structure dZ where
 table:Int
 entity:Int
 variant:Int
 row:List V
 cost:Int
 src:List Int
inductive Plan where
 |mk (kind table:Int) (kids:List Plan) (tests:List AP) (cols:List Int) (col agg:Int) (attrs:List Attr)
structure Ans where
 row:List V
 ways:List W
def D6(lo hi n:Int):Bool:=decide (lo<=n)&&decide (n<=hi)
def fB(v:V):Bool:=
 if v.kind≠1/\v.text.size≠0 then false
 else if v.kind=0 then D6 0 0 v.n else if v.kind=1 then decide (v.text.size<=200)&&D6 0 0 v.n
 else if v.kind=2 then D6 (-1000000000) 1000000000 v.n
 else if v.kind=3 then D6 0 73048 v.n
 else if v.kind=4 then D6 0 1 v.n else false
def iV(a b:ByteArray):Bool:=decide (a.data.toList<b.data.toList)
def y7(a b:ByteArray):Int:=if iV a b then-1 else if iV b a then 1 else 0
def sW(a b:V):Int:=if dJ a.kind b.kind≠0 then dJ a.kind b.kind else if dJ a.n b.n≠0 then dJ a.n b.n else y7 a.text b.text
def lM:List V->List V->Int
 | [],[]=>0
 | [],_::_=>-1
 |_::_,[]=>1
 |x::l,y::m=>if sW x y≠0 then sW x y else lM l m
open Go.au
abbrev S(b:ByteArray):PD:=.raw (.string b)
abbrev val(v:V):PD:=.ak [I v.kind,I v.n,S v.text]
abbrev vals(l:List V):PD:=.list 3 (l.map val)
abbrev strs(l:List ByteArray):PD:=.list 1 (l.map S)
abbrev attr(a:Attr):PD:=.ak [S a.name,I a.kind,strs a.was,I a.dflt.kind,I a.dflt.n,S a.dflt.text]
abbrev attrs(l:List Attr):PD:=.list 6 (l.map attr)
abbrev D7(t:dO):PD:=.ak [S t.name,attrs t.attrs,ints t.key]
abbrev H6(l:List dO):PD:=.list 3 (l.map D7)
abbrev schema(l:List dO):PD:=.ak [H6 l]
abbrev side(x:Side):PD:=.ak [I x.var,I x.col,I x.val.kind,I x.val.n,S x.val.text]
abbrev tst(t:AP):PD:=.ak [I t.left.var,I t.left.col,I t.left.val.kind,I t.left.val.n,S t.left.val.text,I t.op,I t.right.var,I t.right.col,I t.right.val.kind,I t.right.val.n,S t.right.val.text,I t.add]
abbrev xQ(l:List AP):PD:=.list 12 (l.map tst)
abbrev fct(f:dZ):PD:=.ak [I f.table,I f.entity,I f.variant,vals f.row,I f.cost,ints f.src]
abbrev iC(l:List dZ):PD:=.list 6 (l.map fct)
mutual
def N7:List Plan->List PD
 | []=>[]
 |p::l=>plan p::N7 l
def plan:Plan->PD
 | .mk k t kids tests cols col agg a=>.ak [I k,I t,.list 8 (N7 kids),xQ tests,ints cols,I col,I agg,attrs a]
end
def IR(l:List Plan):N7 l=l.map plan:=by
 induction l with
 |nil=>rfl
 |cons p l i=>rw [N7,i];rfl
abbrev plans(l:List Plan):PD:=.list 8 (l.map plan)
abbrev ans(a:Ans):PD:=.ak [vals a.row,ways a.ways]
abbrev PZ(l:List Ans):PD:=.list 2 (l.map ans)
end Go.Proofs.Z
