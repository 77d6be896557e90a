/- A part of the proof. -/
import Derived.Test.YtgeljjfmcmbejaaGreatDoorPShelf2
import Derived.Test.YtgeljjfmcmbejaaGreatDoorPNm
import Derived.Test.YtgeljjfmcmbejaaGreatDoorPVi
set_option linter.all false
set_option linter.deprecated false
open Go renaming run_underlying→bq
open Go.Lib renaming itoa→cm,byteCells→cN
open Go.Proofs.Tryz renaming prog→aa,underlying9→gL,underlying5→lL
open List renaming length_cons→an,length_nil→a9
open Option renaming getD_some→bX
set_option maxRecDepth 100000
set_option maxHeartbeats 4000000
namespace Go.Proofs.Z
open Go.au
variable {a w':World}{v:Value}{xs:List UInt8}{G:Pub}
def tc:aF aa 100:=λ_ _=>qq
def RA:aF aa 149:=λ_ _=>qq
def uG(l:List Int):List UInt8:=l.flatMap λx=>cm x++[32]
def jU(l:List Int):ByteArray:=str (uG l)
def Oo(l:List Int)(x:Int):uG (l++[x])=uG l++cm x++[32]:=by simp [uG]
structure TI(w0:World)(v:Value)(xs:List UInt8)(w:World):Prop where
 own:w.ownsRow w0.heap.size 5 1 v xs.length (cN xs)
 below:Go.RowKit.Below w0.heap.size w0 w
def TI.cell{w:World}(h:TI a v xs w):v.oneCell'=true:=by
 obtain⟨_,⟨rfl,_⟩|⟨g,p,C,rfl,_⟩⟩:=h.own<;>rfl
def TI.kept{b w:World}(h:TI b v xs w)(H:Kept false (λ_=>False) w w'):TI b v xs w':=by
 have d:∀q,q<w.heap.size->w'.heap[q]? =w.heap[q]?:=λq a=>H.block q a (λh=>h);refine⟨?_,h.below.trans ⟨H.os,H.tape,H.output,H.size,λq a=>d q (cj a h.below.size)⟩⟩;obtain⟨e,f|⟨g,p,C,k,j,E,i⟩⟩:=h.own
 ·exact⟨e,.inl f⟩
 ·exact⟨e,.inr ⟨g,p,C,k,j,(d g (bm.1 E).1).trans E,i⟩⟩
def Oq(s:Value)(l:List Int)(v:Value)(k:Nat):St:=⟨21,[(3,.pd (.raw v)),(6,.pd (.raw s)),(7,.pd (I l.length)),(8,.pd (I k))],[],[],[],[]⟩
abbrev Iu:Pub:=λq o=>q=TB/\o=0
def VY{w:World}(h:Go.au.Good w G):Go.au.Good w Iu:=by
 obtain⟨a,t,T,H⟩:=h.tab;exact⟨λq o b=>by rw [b.1];exact h.lt _ _ a,⟨rfl,rfl⟩,t,T,H⟩
def t4{w:World}(h:Go.au.Good w G)(b:Go.RowKit.Below w.heap.size w w'):Tab w' Iu:=by
 obtain⟨a,t,T,H⟩:=h.tab;exact⟨⟨rfl,rfl⟩,t,T,(b.block TB (h.lt _ _ a)).trans H⟩
def Ot{w:World}(h:Go.au.Good w G)(H:Go.RowKit.Below w.heap.size w w'):Go.au.Good w' Iu:=
 ⟨λq o a=>by rw [a.1];exact cj (h.lt _ _ h.tab.1) H.size,t4 h H⟩
def VZ:List (Nat×SV)->Bool
 | []=>true
 |(_,.pd (.raw _))::l=>VZ l
 |(_,.dead)::l=>VZ l
 |_=>false
def V3:∀{l:List (Nat×SV)},VZ l=true->∀t d,(Go.au.lk t l).getD .dead= .pd d->∃u,d= .raw u
 | [],_,t,d,h=>xa
 |(j,x)::l,H,t,d,h=>by
  simp only [Go.au.lk]at h
  split at h
  ·simp only [bX]at h
   subst h
   cases d<;>first|exact⟨_,rfl⟩|cases H
  ·refine V3 (l:=l) ?_ t d h
   unfold VZ at H
   split at H<;>first|exact H|(rename_i e;cases e;exact H)|simp_all
def JX{n:Nat}{s:List (Nat×SV)}{vs:List (Nat×List SV)}{rs:List (Nat×Row)}{ms:List (Nat×dQ)}{g:List (Nat×SV)}(h:VZ s=true):∀t d,St.get ⟨n,s,vs,rs,ms,g⟩ t= .pd d->∃u,d= .raw u:=λt d=>V3 h t d
def MC{w:World}{B n:Nat}{e:TypeId}{sz:Nat}{xs:List Value}(h:w.ownsRow B e sz v n xs):w.ownsRow 0 e sz v n xs:=by
 obtain⟨H,a|⟨g,p,C,b,d,E⟩⟩:=h
 ·exact⟨H,.inl a⟩
 ·exact⟨H,.inr ⟨g,p,C,b,db _,E⟩⟩
def US:∃f,aa.info? 5=some f/\f.zero=some (.int .u8 0)/\f.size=1/\f.bytes=1:=by
 have h:(aa.info? 5).map (λi=>(i.zero,i.size,i.bytes))=some (some (.int .u8 0),1,1):=qq;obtain⟨i,H,d,b,a⟩:=info_parts h;exact⟨i,H,d,b,a⟩
def TI.app{i w:World}{f:Value}{x:UInt8}(h:TI i v xs w)(o:w'.ownsRow 0 5 1 f (xs.length+1) (cN xs++[.int .u8 x.toNat]))(k:w.grownBy w' v.ownBlock)(a:f.ownBlock=v.ownBlock\/f.ownBlock=some w.heap.size):TI i f (xs++[x]) w':=by
 have H:∀b,v.ownBlock=some b->i.heap.size<=b:=λb a=>by
  obtain⟨_,⟨rfl,_⟩|⟨g,p,C,rfl,E,_⟩⟩:=h.own
  ·cases a
  ·cases a;exact E
 have d:∀b,f.ownBlock=some b->i.heap.size<=b:=λb e=>by
  rcases a with a|a
  ·exact H b (a▸e)
  ·rw [a]at e;cases e;exact h.below.size
 refine⟨?_,?_⟩
 ·rw [bd,uF]
  obtain⟨m,l|⟨g,p,C,j,E,n⟩⟩:=o
  ·exact absurd l.2 qk
  ·refine⟨by simpa [cN]using m,.inr ⟨g,p,C,j,d g (by rw [j];rfl),?_⟩⟩
   simpa [cN]using n
 ·exact h.below.grown k h.below.size H
def TI.conv{w:World}(h:TI a v xs w):(Go.convert 174 9 v).run aa w= .ok (.string ⟨xs.toArray⟩) w:=by
 obtain⟨f,⟨rfl,e⟩|⟨g,p,C,rfl,_,d,_,_,s,t⟩⟩:=h.own
 ·have:xs=[]:=kk e
  subst this;simp [Go.convert,bq (iJ kT),bq gL,bq lL,Conv.bytesToString,go_sem];rfl
 ·refine run_convert_bytes_back w 174 9 5 ⟨g,0,none⟩ p xs (iJ kT) lL gL λj b=>?_
  rw [addr_add,cx,cell_of_row w g j C 5 _ d];have H:(C.toList.take (xs.length*1))[j]? =some (.int .u8 xs[j].toNat):=by rw [t];simp [cN,b]
  rw [eD,af qk,ff]at H;exact H
def asZ(s:Value)(X:Array Value):(#[s]++X).getD 0 undef=s:=by simp [aL,Array.getElem?_append]
def UT(b off len cap i:Nat)(w:World)(h:i<len):(Instr.indexAt 35 (.slice (some ⟨b,off,none⟩) len cap) (.int .i64 i)).run aa w= .ok (.pointer (some ⟨b,off+i,none⟩)) w:=by
 have H:=jf (P:=aa) (w:=w) (t:=3) (by rw [zq];decide);rw [zq]at H;simp [Instr.indexAt,uf,bq (iJ sl35),h,addr_add]
def Ej{P:Program}{w:World}{G':Pub}{s:St}{a:Act}{D:List Deferred}(h:Seg P w G s a D)(r:∀t d,s.get t= .pd d->∃u,d= .raw u)(b:Go.au.Good w' G'):Seg P w' G' s a D:=
 ⟨h.size,h.defers,b,λt d H=>by
  obtain⟨u,rfl⟩:=r t d H;have:=h.slots t _ H;generalize a.tmps.getD t undef=x at this⊢
  cases(show Rd w G x (.raw u)from this)with
  |raw _ e=>exact Rd.raw _ e,h.only,h.bare⟩
def Ou(l:List Int)(hl:l.length<=1000000)(hb:∀x∈l,-9223372036854775808<=x/\x<=9223372036854775807):bg aa 100 [.pd (ints l)] [S (jU l)]:=by
 have C:∀k,k<=l.length->(uG (l.take k)).length<=k*22:=by
  intro k
  induction k with
  |zero=>intro _;simp [uG]
  |succ k ih=>
   intro X;have:=ih qk;have h2:=Lib.itoa_length_le l[k] (hb _ (am X)).1 (hb _ (am X)).2;rw [bh X,Oo];simp only [bd,an,a9];omega
 refine⟨tc,λw G vals N hs hv=>calls_of_wp Tryz.func100 rfl ?_⟩;have e0:Rd w G (vals.getD 0 undef) (.list 1 (l.map I)):=hv 0 qr
 obtain⟨s,rfl⟩:∃s,vals= #[s]:=by
  have:vals.toList.length=1:=uu hs;obtain⟨x,hx⟩:=cz.1 this;exact⟨x,by rw [<-Array.toArray_toList (xs:=vals),hx]⟩
 have e0:Rd w G s (.list 1 (l.map I)):=uu e0
 obtain⟨o,c,T,hc,M⟩:∃(o:Option Addr) (c:Nat),s= .slice o l.length c/\l.length<=c/\∀j,(hj:j<l.length)->∃b off,o=some ⟨b,off,none⟩/\b<w.heap.size/\w.cell? ⟨b,off+j,none⟩=some (.int .i64 l[j]):=by
  rcases e0.jM with⟨p,e,hn⟩|⟨b,off,cap,e,hc,_,_,hat⟩
  ·obtain rfl:l=[]:=uu hn
   exact⟨p,0,e,a3 _,λj hj=>vq⟩
  ·simp only [al]at e hc hat
   refine⟨_,cap,e,hc,λj hj=>⟨b,off,rfl,?_⟩⟩;have:=hat j hj 0 (by simp [hj,PD.width]);obtain⟨h1,v,h2,h3⟩:=this;simp only [cQ,Nat.add_zero]at h1 h2;have h3:aH w G v (I l[j]):=(by simpa [getD_map,hj,PD.cell]using h3:Rd w G v (I l[j]));exact⟨N.lt _ _ h1,by rw [h2,aH.aC h3]⟩
 clear e0;have U:s.oneCell'=true:=by rw [T];rfl
 have f:Seg aa w Iu ⟨21,[(0,.pd (.raw s))],[],[],[],[]⟩ ⟨#[s]++Array.replicate (Tryz.f100.ntmps-(#[s]:Array Value).size) undef,[]⟩ []:=by
  refine⟨by simp [Tryz.ntmps100],rfl,VY N,λt d h=>?_,λt=>?_,rfl,rfl,rfl,rfl⟩
  ·simp only [St.get,Go.au.lk]at h
   split at h
   ·rename_i e;subst e
    simp only [bX,SV.pd.injEq]at h;subst h;show aH w Iu ((#[s]++Array.replicate _ undef:Array Value).getD 0 undef) (.raw s);rw [asZ];exact Rd.raw s U
   ·cases h
  ·simp only [St.get,Go.au.lk]
   split
   ·exact .inl ⟨_,rfl⟩
   ·exact .inr rfl
 subst T;refine NC f ?_;refine ac ?_;refine R.loopS (λn a W=>∃k v,n=l.length-k/\k<=l.length/\TI w v (uG (l.take k)) W/\Seg aa W Iu (Oq (.slice o l.length c) l v k) a []) l.length ?_ ?_
 ·intro a W E g
  have H:TI w (.slice none 0 0) (uG (l.take 0)) w:=⟨World.ownsRow_nil _ _ _ _,Go.RowKit.Below.refl _ _⟩;refine⟨0,.slice none 0 0,rfl,qk,H.kept g.kept,Ej (g.wB.weak (s':=Oq (.slice o l.length c) l (.slice none 0 0) 0) rfl ?_ ?_ ⟨rfl,rfl,rfl,rfl⟩) ?_ (VY g.good)⟩
  ·simp only [Oq,AA,St.qQ]
   exact⟨rfl,rfl,rfl,rfl,trivial⟩
  ·simp [Oq]
  ·intro t d h
   simp only [Oq,St.get,Go.au.lk]at h
   repeat(split at h;(simp only [bX,SV.pd.injEq]at h;exact⟨_,h.symm⟩))
   cases h
 ·rintro n a W ⟨k,v,rfl,X,H,f⟩
  refine NC f ?_;unfold Oq;refine ai ?_;refine⟨λh=>?_,λh=>?_⟩
  ·have m:k<l.length:=uu h
   obtain⟨b,off,rfl,Z,hcl⟩:=M k m;have K:uG (l.take (k+1))=uG (l.take k)++cm l[k]++[32]:=by rw [bh m,Oo]
   have r:=C (k+1) m;refine ai ?_;refine R.uh (v:=.pd (.raw (.pointer (some ⟨b,off+k,none⟩)))) rfl (ah qn) nofun (λa w E g=>⟨_,?_,Rd.raw _ rfl⟩) ?_
   ·have e6:a.eval (.tmp 6)= .slice (some ⟨b,off,none⟩) l.length c:=aH.aC (g.slots 6)
    have e8:a.eval (.tmp 8)= .int .i64 k:=aH.aC (g.slots 8);show(execOp a.eval _).run aa _=_;unfold execOp;simp only [e6,e8,Sem.run_bind,UT b off l.length c k _ m,Result.andThen_ok,Sem.run_pure]
   refine ac ?_;refine R.uh (v:=.pd (I l[k])) rfl (ah qn) nofun (λa O E g=>⟨_,?_,Rd.raw _ rfl⟩) ?_
   ·have z:a.eval (.tmp 10)= .pointer (some ⟨b,off+k,none⟩):=aH.aC (g.slots 10)
    refine Om rfl z NU ag3 ?_;rw [<-hcl];exact World.cell?_of_block (a:=⟨b,off+k,none⟩) ((g.kept.block b (cj Z H.below.size) (λh=>h)).trans (H.below.block b Z))
   refine ac ?_;refine R.FM rfl rfl RA λa' O E' D=>?_;have Q:=H.kept D.kept;have e12:a'.eval (.tmp 12)=v:=aH.aC (D.slots 12);have e13:a'.eval (.tmp 13)= .int .i64 l[k]:=aH.aC (D.slots 13);have z:a'.eval (.const (.int .i64 10))= .int .i64 10:=rfl;simp only [cA,ap,ax,e12,e13,z];refine(Tryz.strconv_AppendInt_10 w.heap.size _ l[k] (hb _ (am m)).1 (hb _ (am m)).2 v _ O Q.own Q.below.size (by have:=C k X;omega) ?_).mono ?_
   ·exactλw3 h3=>tT (G:=Iu) (t4 N (Q.below.trans h3))
   rintro e w3 ⟨J,rfl,q,UV,-⟩;refine⟨J,rfl,?_⟩;have V4:TI w J (uG (l.take k)++cm l[k]) w3:=⟨by rw [bd,uF];exact q,Q.below.trans UV⟩;have Ci:=(Ej (w':=w3) (G':=Iu) D.wB (by simp only [St.pure,ap,ax,SV.pure];exact JX rfl) (Ot N V4.below)).put (t:=14) (v:=J) (d:=.raw J) yd (Rd.raw _ V4.cell);refine R.sw rfl Ci ?_;clear Ci Q f D e12 e13 z q;simp only [St.pure,ap,ax,SV.pure];refine ac ?_;intro a4 w4 E4 g4;have yW:=V4.kept g4.kept;have e15:a4.eval (.tmp 15)=J:=aH.aC (g4.slots 15);rcases BO g4 (x:=.pd (.list 1 [.raw (.int .u8 32)])) (es:=[.raw (.int .u8 32)]) rfl (show Rel _ _ _ _ (a4.eval (.tmp 16)) _ from g4.slots 16) (sz:=1) (λi hi=>by simp at hi;subst hi;rfl)with⟨_,h0⟩|⟨b2,off2,c2,news,hy1,hnl,hnc,hn1,hnr⟩
   ·cases h0
   obtain⟨u,rfl⟩:∃u,news=[u]:=cz.1 (uu hnl);have h9:Rd w4 E4.G u (.raw (.int .u8 32)):=by simpa [PD.cell]using hnr 0 0 qr qu
   obtain rfl:u= .int .u8 32:=aH.aC h9;obtain⟨inf,hi,hz0,hz1,hz2⟩:=US;refine xU rfl _ _ 174 rfl 5 inf (.int .u8 0) 1 1 (iJ kT) hi hz0 hz1 hz2 rfl qu J _ _ e15 (MC yW.own) ⟨b2,off2,none⟩ 1 c2 [.int .u8 32] hy1 rfl hnc hn1 (by rw [bd];unfold maxLen;rw [K]at r;simp only [bd,an,a9]at r;omega) (by rw [bd];rw [K]at r;simp only [bd,an,a9]at r;omega) λP w5 L hgr hblk=>?_
   have A:TI w P (uG (l.take (k+1))) w5:=by
    rw [K];exact yW.app L hgr hblk
   have UX:=(Ej (w':=w5) (G':=Iu) (g4.wB.weak (s':=⟨21,[(3,.pd (.raw J)),(6,.pd (.raw (.slice (some ⟨b,off,none⟩) l.length c))),(7,.pd (I l.length)),(8,.pd (I k))],[],[],[],[]⟩) rfl (by simp only [AA,St.qQ];exact⟨rfl,rfl,rfl,rfl,trivial⟩) qr ⟨rfl,rfl,rfl,rfl⟩) (JX rfl) (Ot N A.below)).put (t:=17) (v:=P) (d:=.raw P) qn (Rd.raw _ A.cell);refine R.sw rfl UX ?_;simp only [St.set,up];apply ev8;simp only [go_sem,wrapN (k:=k) qk];refine R.over λa6 w6 E6 g6=>?_;refine⟨l.length-(k+1),qk,k+1,P,rfl,qk,A.kept g6.kept,Ej (g6.wB.weak (s':=Oq (.slice (some ⟨b,off,none⟩) l.length c) l P (k+1)) rfl ?_ ?_ ⟨rfl,rfl,rfl,rfl⟩) (JX rfl) (Ot N (A.kept g6.kept).below)⟩
   ·simp only [Oq,AA,St.qQ]
    exact⟨rfl,rfl,rfl,rfl,trivial⟩
   ·simp [Oq]
  ·have hge:k=l.length:=by have:¬k<l.length:=by simpa using h
                           omega
   rw [bi qk]at H;refine ai ?_;refine R.PG rfl λa' O E' D=>?_;have Q:=H.kept D.kept;refine qL (id:=0) rfl a' O (R.swK rfl (Ej (w':=O) (G':=Iu) (D.wB.weak (s':=⟨21,[(3,.pd (.raw v))],[],[],[],[]⟩) rfl (by simp only [AA,St.qQ];exact⟨rfl,trivial⟩) qr ⟨rfl,rfl,rfl,rfl⟩) (JX rfl) (Ot N Q.below)) ?_);clear H f
   (refine aJ 3 _ _ ?_;simp only [go_sem])
   refine R.uh (v:=.pd (S (jU l))) rfl (ah qn) nofun (λa w3 E g=>⟨_,?_,Rd.raw _ rfl⟩) ?_
   ·have e19:a.eval (.tmp 19)=v:=aH.aC (g.slots 19)
    have V4:=Q.kept g.kept;show(execOp a.eval _).run aa _=_;unfold execOp;simp only [e19,Sem.run_bind,V4.conv,Result.andThen_ok,Sem.run_pure];rfl
   refine ac ?_;refine R.ret λa5 w5 E5 g5=>?_;have hv5:a5.tmps.getD 2 undef= .string (jU l):=aH.aC (g5.slots 2);refine⟨g5.defers,.string (jU l),?_,.string (jU l),rfl,Rd.raw _ rfl,(Q.kept g5.kept).below⟩;rw [iH (vs:=[.string (jU l)]) (by show(([ResultVar.tmp 2]:List ResultVar).mapM (l9 a5.tmps)).run _ _=_;simp [l9,hv5])];rfl
end Go.Proofs.Z
namespace Go.au
variable {args:List SV}{rs r:List PD}
def bJ.toW{P:Program}{f:FuncId}{Q:QV}(h:bJ P f [] [] args [] [] (λvb=>Q vb))
  (Z:∀vb res xs vars rows,Q vb res xs vars rows->res= .ret/\∃es:List PD,xs=es.map SV.pd/\es.length=rs.length/\∀w G v j,j<rs.length->aH w G v (es.getD j (.ak []))->aH w G v (rs.getD j (.ak []))):bg P f args rs:=by
 refine⟨h.1,λw G vals D L K=>?_⟩
 let E:Env:=⟨G,λ_=>0,λ_=>none,λ_=>0⟩
 have hget:∀t,(St.of args [] []).get t=args.getD t .dead:=λt=>qR ..
 have jk:∀t,iR P w G (vals.getD t undef) (args.getD t .dead):=by
  intro t
  by_cases ht:t<args.length
  ·exact K t ht
  ·have:args.getD t .dead= .dead:=vm
   rw [this];trivial
 have N:∀t cs,(St.of args [] []).get t≠.box cs:=λt cs=>xi
 have g:aB (Cx.fv P w G (λ_ _ _=>True) [] (λ_=>none) [] []) (St.of args [] []) ⟨vals,[]⟩ w E:={
  kept:=Kept.refl _ _ _
  aV:=λt=>by simp only [St.dR,St.of,lk,Option.getD_none];trivial
  maps:=λr m h=>yi
  aZ:=λt b h=>xa
  bM:=λi p h=>xa
  bI:=λi r p h=>vn
  defers:=rfl
  size:=L
  g0:=λ_ _ h=>h
  g1:=λ_ _ h=>.inl h
  tab:=D.tab
  gw:=D.lt
  slots:=λt=>ky
  vars:=λt cs h=>vo
  rows:=λi r h=>vn
  boxes:=λt cs h=>(N t cs h).elim
  vv:=λt T cs C h=>vo
  rr:=λi i' r r' p h=>vn
  vr:=λt cs i r p h=>vo
  bb:=λt T cs C h=>(N t cs h).elim
  bv:=λt T cs C h=>(N t cs h).elim
  br:=λt cs i r p h=>(N t cs h).elim}
 refine(h.2 w E vals g).mono ?_;rintro e n ⟨res,xs,vars,rows,s,J,M,a,u,_,_⟩;obtain⟨rfl,es,rfl,U,z⟩:=Z _ _ _ _ _ M;have H:s.size=rs.length:=by have:=a.size;simpa [St.of,U]using this
 have A:Keeps n J.G n (G.new w.heap.size):=.same λb o O=>a.g1 b o O
 have l:∀j,j<rs.length->aH n (G.new w.heap.size) (s.getD j undef) (rs.getD j (.ak [])):=λj X=>by
  have x:=a.slots j;rw [qR]at x;have e1:(es.map SV.pd).getD j .dead= .pd (es.getD j (.ak [])):=by simp [show j<es.length by omega]
  rw [e1]at x;exact(z n J.G _ j X x).keep A
 refine⟨_,u,?_,⟨a.kept.os,a.kept.tape,a.kept.output,a.kept.size,λk A=>a.kept.block k A (by rintro(⟨t,h⟩|⟨i,p,h,_⟩)<;>cases h)⟩⟩
 match rs,H,l with
 | [d],H,l=>
  have x:=l 0 qr;have q:s.size=1:=H;rw [dc q];show aH n (G.new w.heap.size) s[0] d;simpa [Array.getD,q]using x
 | [],H,l=>exact⟨s,by rw [ew (by simp at H;simp [H])],H,l⟩
 |_::_::_,H,l=>exact⟨s,by rw [ew (by simp at H;omega)],H,l⟩
def oU.le{w:World}{G:Pub}{v:Value}(l:r.length=rs.length)(H:∀v j,j<rs.length->aH w G v (rs.getD j (.ak []))->aH w G v (r.getD j (.ak [])))(h:oU w G v rs):oU w G v r:=by
 match rs,r,l,H,h with
 | [d],[D],_,H,h=>exact H v 0 qr h
 | [],[],_,_,h=>exact h
 |_::_::_,_::_::_,l,H,h=>
  obtain⟨s,e,b,f⟩:=h;exact⟨s,e,by rw [b,<-l],λj a=>H _ j (by rw [<-l];exact a) (f j (by rw [<-l];exact a))⟩
def bg.le{P:Program}{f:FuncId}(h:bg P f args rs)(l:r.length=rs.length)(H:∀w G v j,j<rs.length->aH w G v (rs.getD j (.ak []))->aH w G v (r.getD j (.ak []))):bg P f args r:=
 ⟨h.1,λw G vals k i g=>(h.2 w G vals k i g).mono λ_ a ⟨v,e,b,d⟩=>⟨v,e,b.le l (λv j=>H a _ v j),d⟩⟩
def Dv(n:Nat):PD:=.ak (List.replicate n .unk)
def aH.Dv{w:World}{G:Pub}{v:Value}{ds:List PD}(h:aH w G v (.ak ds)):aH w G v (au.Dv ds.length):=by
 obtain⟨C,rfl,s,r⟩:=h;refine⟨C,rfl,uu s,λj H=>?_⟩;simp only [fh]at H;have:=(r j H).oneCell;simp only [ag,ie,H,a7,bX];exact .unk _ this
end Go.au
