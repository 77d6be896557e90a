/- A part of the proof. -/
import Derived.Test.YtgeljjfmcmbejaaGreatDoorPK6
set_option linter.all false
set_option linter.deprecated false
open ByteArray renaming empty→cS
open Go.Lib renaming itoa_length_le→ix,formatBool→hU,decDigits→fq,itoa→cm
open Go.Proofs.Tryz renaming prog→aa
open Int renaming reduceEq→dT
open List renaming cons_append→bE,Nodup→p9,length_cons→an,length_nil→a9,mem_iff_getElem→Bw,getElem_cons_zero→il,getElem_cons_succ→px,nil_append→cg,foldl_cons→j1,foldl_nil→B3
set_option maxRecDepth 100000
set_option maxHeartbeats 4000000
namespace Go.Proofs.Z
open Go.au
variable {n d:Nat}{a b:ByteArray}{L M:bQ}{m:AM}{α β:Type}{l:List Attr}{p:Plan}{facts:List dZ}
def _root_.Go.au.BF{C:Cx}{a:Act}{w:World}:∀{k:List KI},fin C k (.goto n) a w->C.post (.goto n) a w
 | [],h=>h
 | .code _::k,h=>BF (k:=k) h
 | .ops _ _::k,h=>BF (k:=k) h
 | .inBlock _::k,h=>BF (k:=k) h
 | .aU _::k,h=>BF (k:=k) h
def _root_.Go.au.R.scope{C:Cx}{k:List KI}{s:St}{c:Code}(p:∀n a w,¬C.post (.goto n) a w)(h:R C (.code c::k) s):R C (.code (.scope c)::k) s:=by
 intro a w E g;refine wp_scope_straight (wp_mono (h a w E g) ?_);intro e a w H
 cases e with
 |goto n=>exact p n a w (BF H)
 |normal=>exact H
 |exit _=>exact H
 |ret=>exact H
 |panic _=>exact H
 |outgrown=>exact H
def _root_.Go.au.R.label{C:Cx}{k:List KI}{s:St}(h:R C k s):R C (.code (.label n)::k) s:=λa w E g=>wp_label (h a w E g)
def Gc(l:List V)(d:l.length<=1000000000):fV aa 280 [.pd (vals l)] [] [] (λres M=>res= .own ⟨112,3,l.map val⟩/\M=[]):=by
 refine fV.mk Tryz.func280 λw G=>?_;refine ac ?_;refineλb a=>⟨λh=>?_,λh=>?_⟩
 ·refine ac ?_
  refine R.mV 2 2 112 3 qn rfl rfl ?_;simp only [go_sem];refine R.yJ rfl rfl rfl ⟨?_,rfl⟩;rw [a h]
 ·(refine aJ 3 _ _ ?_;simp only [go_sem])
  refine R.empty 5 rfl rfl rfl rfl qn U3 (by rw [UL,NW];decide) (by rw [UL,NY];rfl) ?_;refine ac ?_;refine R.append rfl rfl (ah qn) rfl rfl rfl (es:=l.map val) rfl U3 rfl NW qu (congrArg (Option.map List.length) NY) rfl (λi H=>?_) ?_ ?_ ?_
  ·simp only [al]at H
   simp only [getD_map,H];rfl
  ·rw [UL,TQ];simp;omega
  ·simp [maxLen];omega
  refine ac ?_;exact R.yJ rfl rfl rfl ⟨rfl,rfl⟩
abbrev jV(la:List Attr):List (Attr×Nat):=la.zipIdx
abbrev pK(l:List (Attr×Nat)):jo:=l.map λp=>(.string p.1.name,I p.2)
def zV(l:List Attr)(n:ByteArray):Option Nat:=l.findIdx? λa=>decide (a.name=n)
def iM(L:List Attr)(x:List V):List (Attr×V)->List V->Option (List V)
 | [],o=>some o
 |(a,v)::l,o=>match zV L a.name with
  |some k=>if kU (x.getD k V.zero) 1 v 0 then iM L x l o else none
  |none=>iM L x l (o++[v])
def J8(l lb:List Attr)(x y:List V):Option (List V):=iM l x (lb.zip y) x
def CS(L:List Attr)(x:List V)(m:List (Attr×V)):∀(l:List (Attr×V)) (o:List V),iM L x (l++m) o=(iM L x l o).bind (iM L x m)
 | [],o=>rfl
 |(a,v)::l,o=>by
  simp only [bE,iM]
  split
  ·split
   ·exact CS L x m l o
   ·rfl
  ·exact CS L x m l _
def Jd(L:List Attr)(x:List V):∀(l:List (Attr×V)) (O o:List V),iM L x l O=some o->o.length<=O.length+l.length
 | [],O,o,h=>by simp only [iM,bo]at h;subst h;simp
 |(a,v)::l,O,o,h=>by
  simp only [iM]at h
  split at h
  ·split at h
   ·have:=Jd L x l O o h;simp;omega
   ·cases h
  ·have:=Jd L x l _ o h;simp at this⊢;omega
def jm(l lb:List Attr)(Q q:ByteArray×Ans):bQ:=match J8 l lb Q.2.row q.2.row with
 |some row=>[(row,dH (gQ Q.2.ways q.2.ways))]
 |none=>[]
def Z6(l:List Attr)(g:(l.map (·.name)).Nodup)(n:ByteArray):(∃k,zV l n=some k/\k<l.length/\rU aa 3 .string (.string n) ((pK (jV l)).map (·.1)) ((pK (jV l)).map (·.2)) true (I k))\/(zV l n=none/\rU aa 3 .string (.string n) ((pK (jV l)).map (·.1)) ((pK (jV l)).map (·.2)) false (I 0)):=by
 have b:∀k∈(pK (jV l)).map (·.1),cZ .string k=true:=by
  intro k H;simp only [cr,aq]at H;obtain⟨p,_,rfl⟩:=H;rfl
 have s:(pK (jV l)).map (·.1)=l.map λa=>Value.string a.name:=by
  apply cJ
  ·simp
  ·intro i o m;simp
 have f:(pK (jV l)).map (·.2)=(List.range l.length).map λi=>I (i:Nat):=by
  apply cJ
  ·simp
  ·intro i o m;simp
 cases h:zV l n with
 |some k=>
  unfold zV at h;rw [jN]at h;obtain⟨H,d,_⟩:=h;refine .inl ⟨k,rfl,H,rfl,b,?_,k,by rw [s];simpa using H,?_,?_⟩
  ·rw [s]
   simp only [p9,eg]at g⊢;exact g.imp λh e=>h (uu e)
  ·rw [s];simp at d;simp [H,d]
  ·rw [f];simp [H]
 |none=>
  unfold zV at h;rw [pN]at h;refine .inr ⟨rfl,rfl,λk H=>⟨b k H,λe=>?_⟩,zd3⟩;rw [s]at H;obtain⟨a,j,rfl⟩:=aq.1 H;have:=h a j;simp at e this;exact this e
def K7(p X k1:Plan)(facts:List dZ)(hk:p.kids=[X,k1])(n v:Nat)(d M:AM)(h12:n≠v)(n1:(d.map (·.1)).Nodup)(n2:(M.map (·.1)).Nodup)(s1:Jc d)(s2:Jc M)
  (hna:(X.attrs.map (·.name)).Nodup)(hla:X.attrs.length<=100000000)(hlb:k1.attrs.length<=100000000)(hr1:∀q∈d,q.2.row.length=X.attrs.length)(hr2:∀q∈M,q.2.row.length=k1.attrs.length)
  (ho:okD (d.flatMap λC=>M.flatMap (jm X.attrs k1.attrs C))):
  fV aa 184 [.pd (Sm p facts [n,v])] [(n,aN d),(v,aN M)] [] (I8 (d.flatMap λC=>M.flatMap (jm X.attrs k1.attrs C))):=by
 have hz:=bV h12;generalize ath:X.attrs=la at*
 generalize ati:k1.attrs=lb at*
 refine fV.mk Tryz.func184 λw G=>?_;simp only [Sm,hk,ap,ax];refine ac ?_;refine R.makeMap rfl rfl rfl qn λrl hl1 f=>?_;have f1:=bV (eG (q:=n) (x:=.map (aN d)) f q9);have f2:=bV (eG (q:=v) (x:=.map (aN M)) f (by simp [St.map,lk,hz]));clear f;apply ev8;simp only [go_sem,Int.toNat_zero,bC X,ath];repeat refine⟨qk,?_⟩
 have hl0:([]:jo)=pK ((jV la).take 0):=rfl;refine R.og (λ(k:Nat) s=>{St.lp [1,2,3,6,8,10,11,12,13,14,15,22,23,34,35,36,37,38,39,40,41,42,43,44,45,46,47,48,49,50,51,52,53,54,55,56,57,58,59,60,61,62,63,64,65,66,67,68,69,70,71,72,73,74,75,76,77,78,79,80,81,82,83,84,85,86,87,88,89,90,91,92,93,94,95,96,97,98,99,100,101,102,103,104,105,107] [(24,.pd (I k))] [1,8,10,13] [] [] [] s with maps:=[(rl,.map (pK ((jV la).take k))),(n,.map (aN d)),(v,.map (aN M))]}) (λ(k:Nat)=>k<=la.length) (λ(k:Nat)=>la.length-k) (0) qk (by(simp only [go_sem,f1,f2,hz]);all_goals(and_intros<;>first|rfl|simp)) ?_;rintro k hk';refine ai ?_;refine⟨λh=>?_,λh=>?_⟩
 ·have E:k<la.length:=uu h
  have hlz:k<(jV la).length:=uu E
  have J:pK ((jV la).take (k+1))=pK ((jV la).take k)++[(.string la[k].name,I k)]:=by
   rw [bh hlz];simp
  refine z7 E ?_;refine R.jA (m:=pK ((jV la).take k)) (.inl rfl) rfl (ah qn) rfl q9 rfl rfl TT rfl (λq hq=>?_) (.inl hl1) ?_
  ·obtain⟨Q,hq',rfl⟩:=aq.1 hq
   refine⟨rfl,λe=>?_⟩;obtain⟨j,hj,rfl⟩:=List.mem_take_iff_getElem.1 hq';simp only [List.getElem_zipIdx]at e;have e:la[j].name=la[k].name:=uu e;have:=cB.1 hna j k (by simp at hj⊢;omega) (uu E) qk;simp only [ei]at this;exact this e
  apply ev8;simp only [go_sem,fK,dQ.fK,wrapN (k:=k) qk];refine R.fE (k+1) qk (l:=by(simp only [go_sem,J,f1,f2,hz]);all_goals(and_intros<;>first|rfl))
 have hke:(jV la).take k=jV la:=bi (by have h':¬k<la.length:=(uu h);simp;omega);rw [hke];refine ac ?_;refine R.makeMap rfl rfl rfl qn λr Z f=>?_;have e1:=bV (eG (q:=n) (x:=.map (aN d)) f (by simp [St.map,lk,f1]));have e2:=bV (eG (q:=v) (x:=.map (aN M)) f (by simp [St.map,lk,f2,hz]));have e3:=bV (eG (q:=rl) (x:=.map (pK (jV la))) f q9);clear f;apply ev8;simp only [go_sem,Int.toNat_zero];repeat refine⟨qk,?_⟩
 refine R.BA d rfl rfl rfl qn rfl (by simp [St.map,lk,e1,f1]) xv λb K H=>?_;have e4:=bV (eG (q:=r) (x:=.map []) H q9);have e5:=bV (eG (q:=n) (x:=.map (aN d)) H (by simp [St.map,lk,e1,f1]));have e6:=bV (eG (q:=v) (x:=.map (aN M)) H (by simp [St.map,lk,e2,f2,hz]));have e7:=bV (eG (q:=rl) (x:=.map (pK (jV la))) H (by simp [St.map,lk,e3]));clear K H;refine ac ?_;refine R.og (λ(y:AM×AM×bQ×Option Value) s=>{St.lp [1,2,3,6,39,107] [] [1,5] [] [] [] s with maps:=[(b,.it n (y.2.1.map keyS) y.2.2.2),(r,.map (aN (bW y.2.2.1))),(rl,.map (pK (jV la))),(n,.map (aN d)),(v,.map (aN M))]}) (λ(y:AM×AM×bQ×Option Value)=>(y.1++y.2.1).Perm d/\y.2.2.1.Perm ([]++y.1.flatMap λC=>M.flatMap (jm la lb C))) (λ(y:AM×AM×bQ×Option Value)=>y.2.1.length) (([],d,[],none)) (⟨.refl _,qr⟩) (by(simp only [go_sem,Bz,e1,e2,e3,f1,f2,hz,e4,e5,e6,e7]);all_goals(and_intros<;>first|rfl|simp)) ?_;rintro⟨L,left,L',cur⟩ ⟨hp,hL'⟩;simp only at hp hL';refine ac ?_;refine R.J7 (m:=d) (r:=n) (cur:=cur) (left:=left) (done:=L) n1 hp rfl rfl (ah qn) rfl q9 (by simp [St.map,lk,e1,f1,e5]) (λhz0=>?_) (λl1 q l2 hz0 hpm hp2=>?_)
 ·subst hz0
  have hL2:L'.Perm (d.flatMap λC=>M.flatMap (jm la lb C)):=ju;refine ar ?_;refine R.wu (vc:=True) [(r,aN (bW L'))] rfl trivial ⟨r,L',rfl,rfl,hL2⟩ (λr' m' h=>?_);simp only [lk]at h
  split at h
  ·rename_i e;subst e;cases h;exact⟨yv,.inr Z⟩
  ·cases h
 ·refine ar ?_
  refine R.BD (p:=q) (left:=(l1++l2).map keyS) (r:=n) n1 hpm rfl rfl (ah qn) rfl q9 (by simp [St.map,lk,e1,f1,e5]) ?_;have hstep:=rJ (g:=λC=>M.flatMap (jm la lb C)) hL' q;have hpre:=yh (A:=[]) (g:=λC=>M.flatMap (jm la lb C)) ho hp2 hL';have P:=s1 q hpm;have hx:=hr1 q hpm;refine ac ?_;refine R.scope (λ_ _ _ h=>h) ?_;refine ac ?_;refine R.label ?_;apply ev8;simp only [go_sem,Int.toNat_one];repeat refine⟨qk,?_⟩
  refine R.BA M rfl rfl rfl qn rfl (by simp [St.map,lk,e2,f2,hz,e6]) xv λb2 K H=>?_;have g0:=bV (eG (q:=b) (x:=.it n ((l1++l2).map keyS) (some (keyS q))) H q9);have g4:=bV (eG (q:=r) (x:=.map (aN (bW L'))) H yv);have g5:=bV (eG (q:=n) (x:=.map (aN d)) H (by simp [St.map,lk,e1,f1,e5]));have g6:=bV (eG (q:=v) (x:=.map (aN M)) H (by simp [St.map,lk,e2,f2,hz,e6]));have g7:=bV (eG (q:=rl) (x:=.map (pK (jV la))) H (by simp [St.map,lk,e3,e7]));clear K H;refine ac ?_;refine R.og (λ(z:AM×AM×bQ×Option Value) s=>{St.lp [1,2,3,6,8,39,48,107] [] [1,5,8] [] [] [] s with maps:=[(b2,.it v (z.2.1.map keyS) z.2.2.2),(b,.it n ((l1++l2).map keyS) (some (keyS q))),(r,.map (aN (bW z.2.2.1))),(rl,.map (pK (jV la))),(n,.map (aN d)),(v,.map (aN M))]}) (λ(z:AM×AM×bQ×Option Value)=>(z.1++z.2.1).Perm M/\z.2.2.1.Perm (L'++z.1.flatMap (jm la lb q))) (λ(z:AM×AM×bQ×Option Value)=>z.2.1.length) (([],M,L',none)) (⟨.refl _,qr⟩) (by(simp only [go_sem,e1,e2,e3,f1,f2,hz,e4,e5,e6,e7,g0,g4,g5,g6,g7]);all_goals(and_intros<;>first|rfl|simp)) ?_;rintro⟨D,ZD,L2,Py⟩ ⟨hp3,U⟩;simp only at hp3 U;refine ac ?_;refine R.J7 (m:=M) (r:=v) (cur:=Py) (left:=ZD) (done:=D) n2 hp3 rfl rfl (ah qn) rfl q9 (by simp [St.map,lk,e2,f2,hz,e6,g6]) (λN=>?_) (λl3 Q l4 N pj hp4=>?_)
  ·subst N
   have hL4:L2.Perm (L'++M.flatMap (jm la lb q)):=U.trans (gD _ (eQ _ (uu hp3)));have hL5:L2.Perm ([]++(L++[q]).flatMap λC=>M.flatMap (jm la lb C)):=hL4.trans hstep;refine ar ?_;refine R.fE (L++[q],l1++l2,L2,some (keyS q)) ⟨hp2,hL5⟩ (hm:=kd) (l:=xm)
  ·refine ar ?_
   refine R.BD (p:=Q) (left:=(l3++l4).map keyS) (r:=v) n2 pj rfl rfl (ah qn) rfl q9 (by simp [St.map,lk,e2,f2,hz,e6,g6]) ?_;have a:=rJ (g:=jm la lb q) U Q;have vE:=yh (A:=L') (g:=jm la lb q) hpre hp4 U;have O:=s2 Q pj;have hy:=hr2 Q pj;refine ac ?_;refine R.ig xp 11 xp rfl rfl (ah qn) zd (Gc q.2.row (by rw [hx];omega)) (λr' m' h=>xc) (λr' h=>xy) ?_;rintro res M' ⟨rfl,rfl⟩ hh;clear hh;simp only [Behind];apply ev8;simp only [go_sem,cI,Int.toNat_one,bC k1,ati];repeat refine⟨qk,?_⟩
   refine R.fU (λ(z:Nat×List V) s=>St.lp [1,2,3,6,8,10,39,48,61,62,98,99,100,101,102,103,104,105,107] [(63,.pd (I z.1)),(11,.own 11)] [1,5,8,10] [] [] [(11,⟨112,3,z.2.map val⟩)] s) (λ(z:Nat×List V)=>z.1<=lb.length/\iM la q.2.row ((lb.zip Q.2.row).take z.1) q.2.row=some z.2) (λ(z:Nat×List V)=>lb.length-z.1) ((0,q.2.row)) (⟨ui,by simp [iM]⟩) ?_ (by(simp only [go_sem,e1,e2,e3,f1,f2,hz,e4,e5,e6,e7,g0,g4,g5,g6,g7]);all_goals(and_intros<;>rfl));rintro⟨i,o⟩ ⟨hi,t⟩;simp only at hi t;have hol:=Jd _ _ _ _ _ t;rw [fb,hx]at hol;refine ai ?_;refine⟨λh=>?_,λh=>?_⟩
   ·have E:i<lb.length:=uu h
    have hlty:i<Q.2.row.length:=by rw [hy];exact E
    have hlz:i<(lb.zip Q.2.row).length:=qz
    have J:iM la q.2.row ((lb.zip Q.2.row).take (i+1)) q.2.row=iM la q.2.row [(lb[i],Q.2.row[i])] o:=by
     rw [bh hlz,CS,t];simp
    have hdr:J8 la lb q.2.row Q.2.row=(iM la q.2.row [(lb[i],Q.2.row[i])] o).bind (iM la q.2.row ((lb.zip Q.2.row).drop (i+1))):=by
     unfold J8
     conv=>lhs;rw [<-cK (i+1) (lb.zip Q.2.row),CS,J]
    refine z7 E ?_;rcases Z6 la hna lb[i].name with⟨k,T,hk2,u⟩|⟨T,u⟩
    ·refine R.BP (m:=pK (jV la)) rfl rfl (ah qn) rfl (by simp [St.map,lk,e3,e7,g7]) rfl TT u ?_
     have hkx:k<q.2.row.length:=by rw [hx];exact hk2
     refine ar ?_;refine R.dA 10 80 mixed qv ?_;simp only [go_sem,getD_map,hkx,hlty];repeat refine⟨qk,?_⟩
     refine R.kC (Yo q.2.row[k] 1 Q.2.row[i] 0) rfl rfl zj ?_;refine ac ?_;refine⟨λh2=>?_,λh2=>?_⟩
     ·have hno:kU q.2.row[k] 1 Q.2.row[i] 0=false:=uu h2
      have hnone:J8 la lb q.2.row Q.2.row=none:=by
       rw [hdr];simp [iM,T,hkx,hno]
      have hg:jm la lb q Q=[]:=by simp [jm,hnone]
      rw [hg,el]at a;refine ac ?_;refine R.fE (D++[Q],l3++l4,L2,some (keyS Q)) ⟨hp4,a⟩ (hm:=by(subst N;show _<_;simp<;>omega)) (l:=xm)
     ·have hyes:kU q.2.row[k] 1 Q.2.row[i] 0=true:=uu h2
      have pk:iM la q.2.row ((lb.zip Q.2.row).take (i+1)) q.2.row=some o:=by
       rw [J];simp [iM,T,hkx,hyes]
      apply ev8;simp only [go_sem,wrapN (k:=i) qk];refine R.fE (i+1,o) ⟨by show i+1<=_;omega,pk⟩ (hm:=vj) (l:=xm)
    ·refine R.BP (m:=pK (jV la)) rfl rfl (ah qn) rfl (by simp [St.map,lk,e3,e7,g7]) rfl TT u ?_
     have pk:iM la q.2.row ((lb.zip Q.2.row).take (i+1)) q.2.row=some (o++[Q.2.row[i]]):=by
      rw [J];simp [iM,T]
     apply aj;simp only [go_sem,↓reduceIte,getD_map,hlty];repeat refine⟨qk,?_⟩
     refine R.iy 1000000000 32 rfl rfl qn rfl rfl rfl rfl U3 rfl NW qr (congrArg (Option.map List.length) NY) rfl TQ qz qu qu ?_;apply ev8;simp only [go_sem,wrapN (k:=i) qk];refine R.fE (i+1,o++[Q.2.row[i]]) ⟨by show i+1<=_;omega,pk⟩ (hm:=vj) (l:=by(simp only [go_sem,e1,e2,e3,f1,f2,hz,e4,e5,e6,e7,g0,g4,g5,g6,g7,bl,ap,ax]);all_goals(and_intros<;>first|rfl))
   ·have hge:lb.length<=i:=by have h':¬i<lb.length:=(uu h);omega
    have hjr:J8 la lb q.2.row Q.2.row=some o:=by
     rw [bi qz]at t;exact t
    have hg:jm la lb q Q=[(o,dH (gQ q.2.ways Q.2.ways))]:=by simp [jm,hjr]
    rw [hg]at a vE;have hm4:=nj P.1 O.1;have K:=WJ q.2.ways Q.2.ways (λw hw=>by have:=P.2 w hw;unfold mG Qx at*;omega) (λw hw=>by have:=O.2 w hw;unfold mG Qx at*;omega) (by have:=P.1;omega) (by have:=O.1;omega) qk;have H:=Fg (gQ q.2.ways Q.2.ways) ⟨by rw [CO];omega,λw hw=>by have:=Jb P.2 O.2 w hw;unfold mG okW at*;omega⟩;refine ac ?_;refine R.dI 11 rfl rfl ?_;simp only [go_sem];refine R.kW (K) rfl rfl ze ?_;refine ac ?_;refine R.kW (H) rfl rfl zd ?_;refine ac ?_;refine R.ig xp 60 xp rfl rfl (ah qn) zg (Es r L2 (o,dH (gQ q.2.ways Q.2.ways)) vE) (λr' m' h=>?_) (λr' h=>?_) ?_
    ·simp only [lk]at h
     split at h
     ·rename_i e;subst e;cases h;simp [St.map,lk,e4,g4]
     ·cases h
    ·simp only [bp]at h;subst h;exact⟨jx,.inl Z⟩
    rintro res M' ⟨rfl,rfl⟩ hh;clear hh;simp only [Behind];apply ev8;simp only [go_sem,cI,e1,e2,e3,e4,g4];refine R.fE (D++[Q],l3++l4,L2++[(o,dH (gQ q.2.ways Q.2.ways))],some (keyS Q)) ⟨hp4,a⟩ (hm:=by(subst N;show _<_;simp<;>omega)) (l:=xm)
def nG(n:ByteArray)(L:bQ):List W:=L.flatMap λx=>if rowB x.1=n then x.2 else []
def XI(n:ByteArray)(L:bQ)(x:List V×List W):nG n (L++[x])=nG n L++(if rowB x.1=n then x.2 else []):=by simp [nG]
def zW{n:ByteArray}{w:W}:w∈nG n L↔∃x∈L,rowB x.1=n/\w∈x.2:=by
 simp only [nG,dC];constructor
 ·rintro⟨x,H,h⟩
  split at h
  ·rename_i e;exact⟨x,H,e,h⟩
  ·simp at h
 ·rintro⟨x,H,e,h⟩
  exact⟨x,H,by rw [af e];exact h⟩
def WQ{n:ByteArray}{row:List V}{l:List W}:∀{m:AM},(m.map (·.1)).Nodup->∀p∈jQ n row l m,(p∈m/\p.1≠n)\/(p.1=n/\p.2.row=row/\((∃q∈m,q.1=n/\p.2.ways=q.2.ways++l)\/((∀q∈m,q.1≠n)/\p.2.ways=l)))
 | [],_,p,h=>by simp only [jQ,bp]at h;subst h;exact .inr ⟨rfl,rfl,.inr ⟨qr,rfl⟩⟩
 |(N,a)::m,f,p,h=>by
  simp only [ap,dE]at f;simp only [jQ]at h
  split at h
  ·rename_i e
   subst e;rcases b8.1 h with rfl|h
   ·exact .inr ⟨rfl,rfl,.inl ⟨(N,a),bk ..,rfl,rfl⟩⟩
   ·exact .inl ⟨b3 _ h,λe=>f.1 (e▸aq.2 ⟨p,h,rfl⟩)⟩
  ·rename_i e
   rcases b8.1 h with rfl|h
   ·exact .inl ⟨bk ..,e⟩
   ·rcases WQ f.2 p h with⟨d,b⟩|⟨d,b,⟨q,H,g⟩|⟨g,i⟩⟩
    ·exact .inl ⟨b3 _ d,b⟩
    ·exact .inr ⟨d,b,.inl ⟨q,b3 _ H,g⟩⟩
    ·refine .inr ⟨d,b,.inr ⟨λq H=>?_,i⟩⟩
     rcases b8.1 H with rfl|H
     ·exact e
     ·exact g q H
def CU(L:bQ):(∀p∈bW L,p.2.ways=nG p.1 L/\∃x∈L,p.1=rowB x.1/\p.2.row=x.1)/\∀n,n∈(bW L).map (·.1)↔∃x∈L,rowB x.1=n:=by
 refine foldl_rev (P:=λL m=>(m.map (·.1)).Nodup/\(∀p∈m,p.2.ways=nG p.1 L/\∃x∈L,p.1=rowB x.1/\p.2.row=x.1)/\∀n,n∈m.map (·.1)↔∃x∈L,rowB x.1=n) ⟨qr,qr,qr⟩ ?_ L|>.2;rintro L x m ⟨g,j,i⟩
 have s:∀n,n∈(jQ (rowB x.1) x.1 x.2 m).map (·.1)↔∃y∈L++[x],rowB y.1=n:=by
  intro n;rw [I4,i n];constructor
  ·rintro(rfl|⟨y,h,e⟩)
   ·exact⟨x,qr,rfl⟩
   ·exact⟨y,eR _ h,e⟩
  ·rintro⟨y,h,e⟩
   rcases cw.1 h with h|h
   ·exact .inr ⟨y,h,e⟩
   ·rw [bp.1 h]at e;exact .inl e.symm
 refine⟨zU g,λp k=>?_,s⟩;rw [XI];rcases WQ g p k with⟨l,f⟩|⟨H,a,b⟩
 ·obtain⟨t,y,h,E⟩:=j p l
  exact⟨by rw [t,ae (λe=>f e.symm),el],y,eR _ h,E⟩
 ·refine⟨?_,x,qr,H,a⟩
  rw [af H.symm];rcases b with⟨q,d,O,e⟩|⟨o,e⟩
  ·rw [e,(j q d).1,O,H]
  ·rw [e]
   have:nG p.1 L=[]:=by
    rw [Bm];intro w b;obtain⟨y,h,E,_⟩:=zW.1 b;have:p.1∈m.map (·.1):=(i _).2 ⟨y,h,E⟩;obtain⟨q,d,r⟩:=aq.1 this;exact o q d (r.trans H)
   rw [this];rfl
def yj(L:bQ):Prop:=∀x∈L,∀y∈L,rowB x.1=rowB y.1->x.1=y.1
def OZ(hi:yj L)(q:ByteArray×Ans):q∈fG (bW L)↔∃x∈L,q=(rowB x.1,⟨x.1,dH (nG (rowB x.1) L)⟩)/\(dH (nG (rowB x.1) L)).length≠0:=by
 obtain⟨i,k⟩:=CU L;simp only [fG,mB];constructor
 ·rintro⟨p,b,H⟩
  obtain⟨g,x,a,f,d⟩:=i p b;unfold qg at H;rw [g,f,d]at H
  split at H
  ·cases H
  ·rename_i h;cases H;exact⟨x,a,rfl,h⟩
 ·rintro⟨x,a,rfl,h⟩
  obtain⟨p,b,e⟩:=aq.1 ((k (rowB x.1)).2 ⟨x,a,rfl⟩);obtain⟨g,y,j,f,d⟩:=i p b;have E:y.1=x.1:=hi y j x a (by rw [<-f,e]);refine⟨p,b,?_⟩;unfold qg;rw [g,e,d,E,ae h]
def BG(h:(m.map (·.1)).Nodup):((fG m).map (·.1)).Nodup:=by
 have:=I9 (D:=m.map (·.1)) h
 rwa [OV (λp H=>aq.2 ⟨p,H,rfl⟩)]at this
def Je{f:α->β}{l:List α}(h:(l.map f).Nodup):l.Nodup:=by
 simp only [p9,eg]at h⊢;exact h.imp λh e=>h (by rw [e])
def yF(h:L.Perm M)(n:ByteArray):dH (nG n L)=dH (nG n M):=
 Hp λw=>by simp only [zW];exact⟨λ⟨x,H,r⟩=>⟨x,h.mem_iff.1 H,r⟩,λ⟨x,H,r⟩=>⟨x,h.mem_iff.2 H,r⟩⟩
def yj.perm(h:L.Perm M)(hi:yj L):yj M:=λx a y H=>hi x (h.mem_iff.2 a) y (h.mem_iff.2 H)
def Lc(h:L.Perm M)(hi:yj L):(fG (bW L)).Perm (fG (bW M)):=by
 refine(List.perm_ext_iff_of_nodup (Je (BG (jG L))) (Je (BG (jG M)))).2 λq=>?_;rw [OZ hi,OZ (hi.perm h)];constructor
 ·rintro⟨x,b,a,H⟩
  rw [yF h]at a H;exact⟨x,h.mem_iff.1 b,a,H⟩
 ·rintro⟨x,b,a,H⟩
  rw [<-yF h]at a H;exact⟨x,h.mem_iff.2 b,a,H⟩
def Ld(L:bQ):kG (bW L)↔(∀x∈L,(dH (nG (rowB x.1) L)).length<=400)/\(fG (bW L)).length<=1000:=by
 obtain⟨b,d⟩:=CU L;unfold kG;refine and_congr ⟨λh x a=>?_,λh p H=>?_⟩ Iff.rfl
 ·obtain⟨p,H,e⟩:=aq.1 ((d (rowB x.1)).2 ⟨x,a,rfl⟩)
  have:=h p H;rw [(b p H).1,e]at this;exact this
 ·obtain⟨f,x,a,E,_⟩:=b p H
  rw [f,E];exact h x a
def Jf(h:L.Perm M)(hi:yj L):kG (bW L)↔kG (bW M):=by
 rw [Ld,Ld,(Lc h hi).length_eq];refine and_congr ⟨λa x H=>?_,λa x H=>?_⟩ Iff.rfl
 ·rw [<-yF h];exact a x (h.mem_iff.2 H)
 ·rw [yF h];exact a x (h.mem_iff.1 H)
def oH(row:List V):Prop:=∀v∈row,fB v=true
def xB(n:Nat)(w:W):Prop:=(∀x∈w.pos,0<=x/\x<n)/\∀x∈w.neg,0<=x/\x<n
def Af(w:W):Prop:=w.pos.Pairwise (· < ·)/\w.neg.Pairwise (· < ·)
structure jd(n c:Nat)(m:AM):Prop where
 nodup:(m.map (·.1)).Nodup
 len:m.length<=1000
 name:∀q∈m,q.1=rowB q.2.row
 valid:∀q∈m,oH q.2.row
 width:∀q∈m,q.2.row.length=c
 few:∀q∈m,q.2.ways.length<=400
 some:∀q∈m,q.2.ways≠[]
 yY:∀q∈m,∀w∈q.2.ways,xB n w
 min:∀q∈m,dH q.2.ways=q.2.ways
structure Adds(n c:Nat)(L:bQ):Prop where
 valid:∀x∈L,oH x.1
 width:∀x∈L,x.1.length=c
 yY:∀x∈L,∀w∈x.2,xB n w
 qH:∀x∈L,∀w∈x.2,Af w
 sum:sumW L<=500000000000
def K8{w:W}(h:xB n w):xB n (nO w):=⟨λx H=>h.1 x ((LM x _).1 H),λx H=>h.2 x ((LM x _).1 H)⟩
def Qz{l:List W}(h:∀w∈l,xB n w):∀w∈dH l,xB n w:=by
 intro w a;obtain⟨y,H,rfl⟩:=MR a;exact K8 (h y H)
def K9{x y:W}(a:xB n x)(H:xB n y):xB n (wW x y):=
 ⟨λz h=>(cw.1 h).elim (a.1 z) (H.1 z),λz h=>(cw.1 h).elim (a.2 z) (H.2 z)⟩
def WR{a b:List W}(f:∀w∈a,xB n w)(e:∀w∈b,xB n w):∀w∈gQ a b,xB n w:=by
 intro w h;simp only [gQ,dC,aq]at h;obtain⟨x,d,y,H,rfl⟩:=h;exact K9 (f x d) (e y H)
def O1{n:Nat}:∀(l:List Int) (a:Int),l.Pairwise (· < ·)->(∀x∈l,a<=x/\x<n)->(l.length:Int)<=(n:Int)-a\/l=[]
 | [],_,_,_=>.inr rfl
 |x::l,a,h,b=>by
  rw [ej]at h;have d:=b x (bk ..);rcases O1 l (x+1) h.2 (λy H=>⟨by have:=h.1 y H;omega,(b y (b3 _ H)).2⟩)with h2|rfl
  ·left;simp only [an];omega
  ·left;simp only [an,a9];omega
def CV{l:List Int}(h:l.Pairwise (· < ·))(H:∀x∈l,0<=x/\x<n):l.length<=n:=by
 rcases O1 l 0 h H with a|rfl
 ·omega
 ·simp
def um{l:List W}{w:W}(h:w∈dH l):w.pos.Pairwise (· < ·)/\w.neg.Pairwise (· < ·):=by
 obtain⟨y,_,rfl⟩:=MR h;exact⟨qm _,qm _⟩
def jd.lens{c:Nat}(h:jd n c m)(g:n<=1000000):Jc m:=by
 refineλq d=>⟨h.few q d,λw H=>?_⟩;have i:=h.yY q d w H;rw [<-h.min q d]at H;obtain⟨f,e⟩:=um H;have a:=CV f i.1;have b:=CV e i.2;exact⟨qk,qk⟩
def jd.qH{c:Nat}(h:jd n c m):∀q∈m,∀w∈q.2.ways,Af w:=λq a w H=>by
 rw [<-h.min q a]at H;exact um H
def KB(row:List V)(c:Nat)(h:∀v∈row,(bytes (fD v)).length+1<=c):(iO row).length<=c*row.length:=by
 induction row with
 |nil=>simp [iO]
 |cons v l i=>
  have b:=h v (bk ..);have a:=i λu H=>h u (b3 _ H);have:iO (v::l)=bytes (fD v)++[32]++iO l:=rfl;rw [this];simp only [bd,an,a9,Nat.mul_add,cQ];omega
def KK(l:List UInt8):(bf l).length<=2*l.length:=by
 induction l with
 |nil=>simp [bf]
 |cons c l i=>
  have:bf (c::l)=iZ c++bf l:=rfl;rw [this,bd,an]
  have:(iZ c).length<=2:=by unfold iZ;repeat' split
                            all_goals simp
  omega
def Gd{v:V}(h:fB v=true):(bytes (fD v)).length+1<=404:=by
 have n:=YC h;unfold fD;rw [h];simp only [bS,b6,ba]
 split
 ·rename_i H
  have t:v.text.size<=200:=by
   unfold fB at h;simp [H]at h;exact h.1
  have:=KK (bytes v.text);have b:(bytes v.text).length=v.text.size:=Array.length_toList;simp only [rD,bytes,an,bd,a9]at this b⊢;omega
 ·split
  ·have:=ix v.n qk qk
   simp only [bytes];omega
  ·split
   ·have:=ix v.n qk qk
    simp only [bytes,an];omega
   ·split
    ·have:(hU (v.n==1)).length<=5:=by cases(v.n==1)<;>decide
     simp only [bytes];omega
    ·simp [bytes]
def WS{row:List V}(h:oH row)(l:row.length<=200000000):oc row:=by
 refine⟨qk,?_⟩;have:=KB row 404 λv H=>Gd (h v H);omega
def Adds.ok{c:Nat}(h:Adds n c L)(a:c<=200000000):okD L:=⟨λx H=>WS (h.valid x H) (by rw [h.width x H];exact a),h.sum⟩
def Adds.perm{c:Nat}(p:L.Perm M)(h:Adds n c L):Adds n c M:=⟨λx H=>h.valid x (p.mem_iff.2 H),λx H=>h.width x (p.mem_iff.2 H),λx H=>h.yY x (p.mem_iff.2 H),λx H=>h.qH x (p.mem_iff.2 H),by rw [<-Sv p];exact h.sum⟩
def Adds.Ea{c:Nat}(h:Adds n c L)(i:n<=1000000):∀p∈bW L,Ea p.2.ways:=by
 intro p e;refine⟨by have:=Sz L p e;have:=h.sum;omega,λw H=>?_⟩;rw [((CU L).1 p e).1]at H;obtain⟨x,d,_,H⟩:=zW.1 H;have g:=h.yY x d w H;have f:=h.qH x d w H;have a:=CV f.1 g.1;have b:=CV f.2 g.2;exact⟨qk,qk⟩
def Adds.clo{c:Nat}(h:Adds n c L)(o:kG (bW L)):jd n c (fG (bW L)):=by
 obtain⟨k,s⟩:=CU L
 have m:∀q∈fG (bW L),∃p∈bW L,∃x∈L,q=(rowB x.1,⟨x.1,dH p.2.ways⟩)/\p.2.ways=nG p.1 L/\(dH p.2.ways).length≠0:=by
  intro q H;obtain⟨p,d,f⟩:=mB.1 H;obtain⟨E,x,b,r,l⟩:=k p d;unfold qg at f
  split at f
  ·cases f
  ·rename_i a;cases f;exact⟨p,d,x,b,by rw [r,l],E,a⟩
 refine⟨BG (jG L),o.2,λq H=>?_,λq H=>?_,λq H=>?_,λq H=>?_,λq H=>?_,λq H=>?_,λq H=>?_⟩
 all_goals obtain⟨p,d,x,b,rfl,E,a⟩:=m q H
 ·rfl
 ·exact h.valid x b
 ·exact h.width x b
 ·exact o.1 p d
 ·intro e
  have e:dH p.2.ways=[]:=e;exact a (by rw [e];rfl)
 ·refine Qz λw g=>?_
  rw [E]at g;obtain⟨y,i,_,j⟩:=zW.1 g;exact h.yY y i w j
 ·exact C7 _
def mP(t:Int)(facts:List dZ):bQ:=facts.zipIdx.flatMap λq=>if q.1.table=t then [(q.1.row,[⟨[(q.2:Int)],[]⟩])]else []
def dG(p:Plan)(facts:List dZ)(ms:List AM):Option bQ:=
 if p.kind=1 then some (mP p.table facts)else match p.kids,ms with
 | [_],[m]=>if p.kind=2 then some (m.flatMap (tH p))else if p.kind=3 then some (m.flatMap (uI p))else some (iw m)
 | [K,k],[a,M]=>if p.kind=4 then some (a.flatMap λq=>M.flatMap (jm K.attrs k.attrs q))else if p.kind=5 then some (iw a++iw M)
   else if a.all λq=>(jH M q).isSome then some (a.flatMap (lU M))else none
 |_,_=>none
def CW(facts:List dZ):Nat->Plan->AM->Prop
 |0,_,_=>False
 |n+1,p,m=>∃ms:List AM,ms.length=p.kids.length/\(∀i (h:i<p.kids.length) (H:i<ms.length),CW facts n p.kids[i] ms[i])/\∃a L,dG p facts ms=some a/\L.Perm a/\kG (bW L)/\m=fG (bW L)
def SA(facts:List dZ):Nat->Plan->Prop
 |0,_=>False
 |n+1,p=>(∃i,∃h:i<p.kids.length,SA facts n p.kids[i])\/∃ms:List AM,ms.length=p.kids.length/\(∀i (h:i<p.kids.length) (H:i<ms.length),CW facts n p.kids[i] ms[i])/\
   (dG p facts ms=none\/∃a L,dG p facts ms=some a/\L.Perm a/\¬kG (bW L))
def sU(tl:List dO)(facts:List dZ):Prop:=facts.length<=4000/\∀f∈facts,0<=f.table/\∃h:f.table.toNat<tl.length,fitsV (tl[f.table.toNat]).attrs f.row=true
inductive Shape(tl:List dO)(n:Nat)(p:Plan):Prop
 |table (hk:p.kind=1) (hks:p.kids=[]) (h0:0<=p.table) (h1:p.table.toNat<tl.length) (hl:p.attrs.length=(tl[p.table.toNat]).attrs.length)
 |sel (hk:p.kind=2) (q:Plan) (hks:p.kids=[q]) (hq:bP n tl q=true) (hs:Ie p q=true) (hl:p.attrs.length=q.attrs.length)
 |proj (hk:p.kind=3) (q:Plan) (hks:p.kids=[q]) (hq:bP n tl q=true) (hc:∀c∈p.cols,0<=c/\c.toNat<q.attrs.length) (hl:p.attrs.length=p.cols.length)
 |join (hk:p.kind=4) (q r:Plan) (hks:p.kids=[q,r]) (hq:bP n tl q=true) (hr:bP n tl r=true) (hn:(q.attrs.map (·.name)).Nodup) (hl:∃l,nR q.attrs q.attrs r.attrs=some l/\p.attrs.length=l.length)
 |union (hk:p.kind=5) (q r:Plan) (hks:p.kids=[q,r]) (hq:bP n tl q=true) (hr:bP n tl r=true) (hl:p.attrs.length=q.attrs.length) (hl2:p.attrs.length=r.attrs.length)
 |minus (hk:p.kind=6) (q r:Plan) (hks:p.kids=[q,r]) (hq:bP n tl q=true) (hr:bP n tl r=true) (hl:p.attrs.length=q.attrs.length) (hl2:p.attrs.length=r.attrs.length)
 |ren (hk:p.kind=7) (q:Plan) (hks:p.kids=[q]) (hq:bP n tl q=true) (hl:p.attrs.length=q.attrs.length)
def F9{a b:List Attr}(h:oz a b=true):a.length=b.length:=by
 unfold oz at h;simp at h;exact h.1
def SB{α:Type}(l:List α):∀(cs:List Int) (O:List α),fC l cs=some O->∀c∈cs,0<=c/\c.toNat<l.length
 | [],_,_,c,H=>by simp at H
 |x::cs,O,h,c,H=>by
  simp only [fC]at h
  split at h
  ·rename_i a
   rcases b8.1 H with rfl|H
   ·exact a
   ·cases e:fC l cs with
    |none=>simp [e]at h
    |some o=>exact SB l cs o e c H
  ·cases h
def QA(a b:ByteArray):eqS a b=true↔a=b:=by
 unfold eqS;rw [cy];constructor
 ·intro h
  have:a.data.toList=b.data.toList:=by
   have H:∀c:ByteArray,c.toList=c.data.toList:=λc=>ByteArray.toList_eq c;rw [<-H,<-H,h]
  cases a;cases b;congr 1;exact Array.toList_inj.1 this
 ·rintro rfl;rfl
def WT(h:Ed l=true):(l.map (·.name)).Nodup:=by
 unfold Ed at h;rw [aM]at h;rw [p9,eg,cB];intro i j o b d e;have m:=h (l[j],j) (by rw [Bw];exact⟨j,uu b,qr⟩);simp only [cE]at m
 have p:mF l l[j].name<=(i:Int):=by
  unfold mF jC
  cases f:l.findIdx? (λt=>eqS t.name l[j].name)with
  |none=>simp<;>omega
  |some k=>
   rw [jN]at f;obtain⟨n,_,H⟩:=f;simp only;rcases cn i k with a|g
   ·have:=H i a
    rw [(QA _ _).2 e]at this;simp at this
   ·omega
 omega
def wY:∀{l:List α},l.length=2->∃q r,l=[q,r]
 | [q,r],_=>⟨q,r,rfl⟩
def Dw{tl:List dO}(h:bP (n+1) tl p=true)(u:p.kind≠8):Shape tl n p:=by
 simp only [bP,bj,cE]at h;obtain⟨⟨⟨⟨k,s⟩,_⟩,_⟩,f⟩:=h;rw [aM]at s
 cases j:jD tl p with
 |none=>rw [j]at f;cases f
 |some l=>
  rw [j]at f;have b:=F9 f;unfold jD at j;unfold Ii at k
  by_cases i:p.kind=1
  ·simp only [i,a7,bo]at k
   rw [af i]at j;unfold vC at j
   split at j
   ·rename_i g
    cases j
    refine .table i (d8.1 k.symm) g.1 g.2 ?_;rw [<-b];simp [LX]
   ·cases j
  rw [ae i]at j k
  by_cases o:p.kind=4\/p.kind=5\/p.kind=6
  ·have d:p.kids.length=2:=by
    rcases o with h|h|h<;>simp [h]at k<;>omega
   obtain⟨q,r,H⟩:=wY d;have a:=s q (by rw [H];simp);have m:=s r (by rw [H];simp);rw [H]at j;simp only at j;rcases o with h|h|h
   ·rw [af h]at j
    refine .join h q r H a m ?_ ⟨l,j,b.symm⟩
    cases n with
    |zero=>simp [bP]at a
    |succ n=>
     simp only [bP,bj]at a;exact WT a.1.2
   ·rw [ae qk,af (.inl h)]at j
    unfold AU at j
    split at j
    ·rename_i e;cases j
     exact .union h q r H a m b.symm (by rw [<-b];exact F9 e)
    ·cases j
   ·rw [ae qk,af (.inr h)]at j
    unfold AU at j
    split at j
    ·rename_i e;cases j
     exact .minus h q r H a m b.symm (by rw [<-b];exact F9 e)
    ·cases j
  by_cases t:p.kind=2\/p.kind=3\/p.kind=7
  ·have d:p.kids.length=1:=by
    rcases t with h|h|h<;>simp [h]at k<;>omega
   obtain⟨q,H⟩:=cz.1 d;have a:=s q (by rw [H];simp);rw [H]at j;simp only at j;rcases t with h|h|h
   ·rw [af h]at j
    unfold AU at j
    split at j
    ·rename_i e;cases j
     exact .sel h q H a e b.symm
    ·cases j
   ·rw [ae qk,af h]at j
    exact .proj h q H a (SB _ _ _ j) (by rw [<-b];exact yL _ _ _ j)
   ·rw [ae qk,ae qk,af h]at j
    unfold vw at j
    split at j
    ·rename_i g;cases j
     exact .ren h q H a g.2
    ·cases j
  ·exfalso
   have:¬(p.kind=2\/p.kind=3\/p.kind=4\/p.kind=5\/p.kind=6\/p.kind=7\/p.kind=8):=qk;rw [ae qk,ae qk,ae qk,ae qk,ae qk,ae qk,ae u]at k
   cases k
def O4{row:List V}(h:fitsV l row=true):row.length=l.length/\oH row:=by
 unfold fitsV at h;simp only [bj,cE]at h;refine⟨h.1,λv H=>?_⟩;obtain⟨i,a,rfl⟩:=bN H;have:=(aM.1 h.2) (l[i]' qk,row[i]) (by rw [Bw];exact⟨i,qz,qr⟩);unfold Dn at this;simp only [bj]at this;exact this.1
def qw{α:Type}(c:Nat)(g:α->bQ):∀(l:List α),(∀x∈l,sumW (g x)<=c)->sumW (l.flatMap g)<=c*l.length
 | [],_=>by simp [sumW]
 |x::l,h=>by
  have b:=h x (bk ..);have a:=qw c g l λy H=>h y (b3 _ H);rw [fI,MP,an,Nat.mul_add,cQ];omega
def uQ(row:List V)(l:List W):sumW [(row,l)]=l.length:=by simp [sumW]
def BE{tl:List dO}(k:sU tl facts){t:Int}(s:0<=t)(r:t.toNat<tl.length):Adds facts.length (tl[t.toNat]).attrs.length (mP t facts):=by
 have m:∀x∈mP t facts,∃i,∃h:i<facts.length,facts[i].table=t/\x=(facts[i].row,[⟨[(i:Int)],[]⟩]):=by
  intro x H;simp only [mP,dC]at H;obtain⟨⟨f,i⟩,l,H⟩:=H
  split at H
  ·rename_i e
   obtain⟨b,d⟩:=List.mem_zipIdx' l;exact⟨i,b,by rw [<-d];exact e,by rw [<-d];simpa using H⟩
  ·simp at H
 have a:∀i (h:i<facts.length),facts[i].table=t->facts[i].row.length=(tl[t.toNat]).attrs.length/\oH facts[i].row:=by
  intro i h e;obtain⟨_,p,n⟩:=k.2 facts[i] (am h);have:=O4 n;simp only [e]at this;exact this
 refine⟨λx H=>?_,λx H=>?_,λx H w j=>?_,λx H w j=>?_,?_⟩
 ·obtain⟨i,b,e,rfl⟩:=m x H;exact(a i b e).2
 ·obtain⟨i,b,e,rfl⟩:=m x H;exact(a i b e).1
 ·obtain⟨i,b,e,rfl⟩:=m x H
  rw [bp.1 j];exact⟨λz g=>by rw [bp.1 g];omega,λz g=>by simp at g⟩
 ·obtain⟨i,b,e,rfl⟩:=m x H
  rw [bp.1 j];exact⟨qr,qr⟩
 ·have:=qw 1 (λq:dZ×Nat=>if q.1.table=t then [(q.1.row,[(⟨[(q.2:Int)],[]⟩:W)])]else []) facts.zipIdx (λq _=>by by_cases h:q.1.table=t<;>simp [h,sumW])
  have o:=k.1;simp only [List.length_zipIdx]at this;unfold mP;omega
def MV{c:Nat}(h:jd n c m):Adds n c (iw m):=by
 refine⟨λx H=>?_,λx H=>?_,λx H=>?_,λx H=>?_,?_⟩
 ·obtain⟨q,a,H⟩:=dC.1 H
  rw [bp.1 H];exact h.valid q a
 ·obtain⟨q,a,H⟩:=dC.1 H
  rw [bp.1 H];exact h.width q a
 ·obtain⟨q,a,H⟩:=dC.1 H
  rw [bp.1 H];exact h.yY q a
 ·obtain⟨q,a,H⟩:=dC.1 H
  rw [bp.1 H];exact h.qH q a
 ·have:sumW (iw m)<=400*m.length:=qw 400 add1 m λq a=>by rw [uQ];exact h.few q a
  have:=h.len;omega
def KS{c:Nat}(b:∀x∈L,oH x.1/\x.1.length=c/\(∀w∈x.2,xB n w)/\∀w∈x.2,Af w)(a:∀x∈M,oH x.1/\x.1.length=c/\(∀w∈x.2,xB n w)/\∀w∈x.2,Af w)(s:sumW L+sumW M<=500000000000):Adds n c (L++M):=
 ⟨λx H=>(cw.1 H).elim (λh=>(b x h).1) (λh=>(a x h).1),λx H=>(cw.1 H).elim (λh=>(b x h).2.1) (λh=>(a x h).2.1),λx H=>(cw.1 H).elim (λh=>(b x h).2.2.1) (λh=>(a x h).2.2.1),λx H=>(cw.1 H).elim (λh=>(b x h).2.2.2) (λh=>(a x h).2.2.2),by rw [MP];exact s⟩
def BS{c:Nat}{M:AM}(e:jd n c M)(d:jd n c m):Adds n c (iw M++iw m):=by
 have a:=MV e;have b:=MV d;refine KS (λx h=>⟨a.valid x h,a.width x h,a.yY x h,a.qH x h⟩) (λx h=>⟨b.valid x h,b.width x h,b.yY x h,b.qH x h⟩) ?_;have f:sumW (iw M)<=400*M.length:=qw 400 add1 M λq H=>by rw [uQ];exact e.few q H
 have s:sumW (iw m)<=400*m.length:=qw 400 add1 m λq H=>by rw [uQ];exact d.few q H
 have:=e.len;have:=d.len;omega
def KV{c:Nat}(p:Plan)(h:jd n c m):Adds n c (m.flatMap (tH p)):=by
 have b:∀x∈m.flatMap (tH p),∃q∈m,x=(q.2.row,q.2.ways):=by
  intro x H;obtain⟨q,a,H⟩:=dC.1 H;unfold tH at H
  split at H
  ·simp at H
  ·exact⟨q,a,bp.1 H⟩
 refine⟨λx H=>?_,λx H=>?_,λx H=>?_,λx H=>?_,?_⟩
 ·obtain⟨q,a,rfl⟩:=b x H;exact h.valid q a
 ·obtain⟨q,a,rfl⟩:=b x H;exact h.width q a
 ·obtain⟨q,a,rfl⟩:=b x H;exact h.yY q a
 ·obtain⟨q,a,rfl⟩:=b x H;exact h.qH q a
 ·have:=qw 400 (tH p) m λq a=>by
   unfold tH
   split
   ·simp [sumW]
   ·rw [uQ];exact h.few q a
  have:=h.len;omega
def Ge{c:Nat}(p:Plan)(h:jd n c m)(g:∀x∈p.cols,0<=x/\x.toNat<c):Adds n p.cols.length (m.flatMap (uI p)):=by
 have b:∀x∈m.flatMap (uI p),∃q∈m,x=(wX q.2.row p.cols,q.2.ways):=by
  intro x H;obtain⟨q,a,H⟩:=dC.1 H;exact⟨q,a,bp.1 H⟩
 refine⟨λx H=>?_,λx H=>?_,λx H=>?_,λx H=>?_,?_⟩
 ·obtain⟨q,a,rfl⟩:=b x H
  intro v f;obtain⟨y,d,rfl⟩:=aq.1 f;have i:=(g y d).2;have e:=h.width q a;have:q.2.row.getD y.toNat V.zero=q.2.row[y.toNat]:=by simp [e,i]
  rw [this];exact h.valid q a _ (am qk)
 ·obtain⟨q,a,rfl⟩:=b x H;simp [wX]
 ·obtain⟨q,a,rfl⟩:=b x H;exact h.yY q a
 ·obtain⟨q,a,rfl⟩:=b x H;exact h.qH q a
 ·have:=qw 400 (uI p) m λq a=>by rw [uI,uQ];exact h.few q a
  have:=h.len;omega
def O5:∀(s l L:List W),fH l s=some L->l.length<=400->L.length<=400
 | [],l,L,h,H=>by simp only [fH,bo]at h;subst h;exact H
 |y::s,l,L,h,H=>by
  simp only [fH]at h
  split at h
  ·rename_i a;exact O5 s _ L h a
  ·cases h
def SC{n:Nat}:∀(s l L:List W),fH l s=some L->(∀w∈l,xB n w)->(∀w∈s,xB n w)->∀w∈L,xB n w
 | [],l,L,h,e,_=>by simp only [fH,bo]at h;subst h;exact e
 |y::s,l,L,h,e,f=>by
  simp only [fH]at h
  split at h
  ·refine SC s _ L h (Qz (WR e λw b=>?_)) λw b=>f w (b3 _ b)
   have a:=f y (bk ..);simp only [tJ,cw,aq]at b;rcases b with⟨v,d,rfl⟩|⟨v,d,rfl⟩
   ·exact⟨λz H=>by simp [uP]at H,λz H=>by simp [uP]at H;subst H;exact a.1 _ d⟩
   ·exact⟨λz H=>by simp [zn]at H;subst H;exact a.2 _ d,λz H=>by simp [zn]at H⟩
  ·cases h
def O6:∀(s l L:List W),fH l s=some L->(∀w∈l,Af w)->∀w∈L,Af w
 | [],l,L,h,H=>by simp only [fH,bo]at h;subst h;exact H
 |y::s,l,L,h,H=>by
  simp only [fH]at h
  split at h
  ·exact O6 s _ L h λw a=>um a
  ·cases h
def Ft{x:ByteArray}{l:List W}(h:qc x m=some l):∃q∈m,q.1=x/\q.2.ways=l:=by
 induction m with
 |nil=>cases h
 |cons q m i=>
  obtain⟨y,a⟩:=q;simp only [qc]at h
  split at h
  ·rename_i e;cases h;exact⟨(y,a),bk ..,e,rfl⟩
  ·obtain⟨q,H,b⟩:=i h;exact⟨q,b3 _ H,b⟩
def SE{c:Nat}{M:AM}(b:jd n c M)(f:jd n d m){q:ByteArray×Ans}(a:q∈M):((jH m q).getD []).length<=400/\∀w∈(jH m q).getD [],xB n w:=by
 cases e:jH m q with
 |none=>simp
 |some l=>
  unfold jH at e;refine⟨O5 _ _ _ e (b.few q a),SC _ _ _ e (b.yY q a) λw h=>?_⟩
  cases E:qc q.1 m with
  |none=>rw [E]at h;simp at h
  |some L=>
   rw [E]at h;obtain⟨Q,H,_,rfl⟩:=Ft E;exact f.yY Q H w h
def O7{c:Nat}{M:AM}(a:jd n c M)(f:jd n d m):Adds n c (M.flatMap (lU m)):=by
 have b:∀x∈M.flatMap (lU m),∃q∈M,x=(q.2.row,(jH m q).getD []):=by
  intro x h;obtain⟨q,H,h⟩:=dC.1 h;exact⟨q,H,bp.1 h⟩
 refine⟨λx h=>?_,λx h=>?_,λx h=>?_,λx h=>?_,?_⟩
 ·obtain⟨q,H,rfl⟩:=b x h;exact a.valid q H
 ·obtain⟨q,H,rfl⟩:=b x h;exact a.width q H
 ·obtain⟨q,H,rfl⟩:=b x h;exact(SE a f H).2
 ·obtain⟨q,H,rfl⟩:=b x h
  cases e:jH m q with
  |none=>simp
  |some l=>exact O6 _ _ _ e (a.qH q H)
 ·have:=qw 400 (lU m) M λq H=>by rw [lU,uQ];exact(SE a f H).1
  have:=a.len;omega
def Dx{L:List Attr}{x:List V}(n:x.length=L.length):∀(bs:List Attr) (s:List V) (d O:List V) (o l:List Attr),s.length=bs.length->iM L x (bs.zip s) d=some O->nR L o bs=some l->d.length=o.length->O.length=l.length
 | [],[],d,O,o,l,_,h,j,e=>by simp [iM]at h;simp [nR]at j;subst h;subst j;exact e
 |b::bs,y::s,d,O,o,l,m,h,j,e=>by
  simp only [List.zip_cons_cons,iM]at h;simp only [nR]at j
  have H:(zV L b.name=none↔mF L b.name<0):=by
   unfold zV mF jC
   have:(λa:Attr=>decide (a.name=b.name))=λt=>eqS t.name b.name:=by
    funext a
    by_cases h:a.name=b.name
    ·simp [h,(QA b.name b.name).2 rfl]
    ·have:eqS a.name b.name=false:=by
      cases p:eqS a.name b.name with
      |false=>rfl
      |true=>exact(h ((QA _ _).1 p)).elim
     simp [h,this]
   rw [this]
   cases L.findIdx? (λt=>eqS t.name b.name)with
   |none=>simp
   |some i=>simp<;>omega
  cases f:zV L b.name with
  |none=>
   rw [f]at h;rw [af (H.1 f)]at j;exact Dx n bs s _ O _ l (uu m) h j (by simp [e])
  |some k=>
   rw [f]at h;have g:¬mF L b.name<0:=λg=>by rw [H.2 g]at f;cases f
   rw [ae g]at j
   split at j
   ·cases j
   ·simp only at h
    split at h
    ·exact Dx n bs s _ O _ l (uu m) h j e
    ·cases h
def Dy{L:List Attr}{x:List V}:∀(l:List (Attr×V)) (O o:List V),iM L x l O=some o->oH O->(∀p∈l,fB p.2=true)->oH o
 | [],O,o,h,d,_=>by simp [iM]at h;subst h;exact d
 |(a,v)::l,O,o,h,d,e=>by
  have b:=λp f=>e p (b3 _ f);simp only [iM]at h
  split at h
  ·split at h
   ·exact Dy l O o h d b
   ·cases h
  ·refine Dy l _ o h (λu H=>?_) b
   rcases cw.1 H with H|H
   ·exact d u H
   ·rw [bp.1 H];exact e (a,v) (bk ..)
def SG{α:Type}(c:α->α->Int)(x:α):∀l:List α,(wC c x l).length<=l.length+1
 | []=>by simp [wC]
 |y::l=>by
  have:=SG c x l;simp only [wC]
  repeat' split
  all_goals simp<;>omega
def O8{α:Type}(c:α->α->Int):∀l:List α,(pV c l).length<=l.length
 | []=>by simp [pV]
 |x::l=>by
  have H:=O8 c l;have h:=SG c x (pV c l);simp only [pV,List.foldr_cons,an]at*;omega
def XJ(l:List W):(dH l).length<=l.length:=
 bz (O8 _ _) (bz (gC _ _) (Ib l))
def Fu{L lb:List Attr}{M:AM}(d:jd n L.length M)(e:jd n lb.length m)(k:nR L L lb=some l):Adds n l.length (M.flatMap λq=>m.flatMap (jm L lb q)):=by
 have f:∀x∈M.flatMap λq=>m.flatMap (jm L lb q),∃Q∈M,∃b∈m,∃row,J8 L lb Q.2.row b.2.row=some row/\x=(row,dH (gQ Q.2.ways b.2.ways)):=by
  intro x a;obtain⟨Q,h,a⟩:=dC.1 a;obtain⟨b,H,a⟩:=dC.1 a;unfold jm at a
  split at a
  ·rename_i row r;exact⟨Q,h,b,H,row,r,bp.1 a⟩
  ·simp at a
 refine⟨λx a=>?_,λx a=>?_,λx a=>?_,λx a=>?_,?_⟩
 ·obtain⟨Q,h,b,H,row,r,rfl⟩:=f x a
  refine Dy _ _ _ r (d.valid Q h) λp j=>?_;exact e.valid b H p.2 (List.of_mem_zip j).2
 ·obtain⟨Q,h,b,H,row,r,rfl⟩:=f x a
  exact Dx (d.width Q h) lb b.2.row _ _ _ _ (e.width b H) r k (d.width Q h)
 ·obtain⟨Q,h,b,H,row,r,rfl⟩:=f x a
  exact Qz (WR (d.yY Q h) (e.yY b H))
 ·obtain⟨Q,h,b,H,row,r,rfl⟩:=f x a
  exactλw i=>um i
 ·have g:∀Q∈M,sumW (m.flatMap (jm L lb Q))<=160000000:=by
   intro Q h
   have:=qw 160000 (jm L lb Q) m λb H=>by
    unfold jm
    split
    ·rw [uQ]
     refine bz (XJ _) ?_;rw [CO];exact bz (nj (d.few Q h) (e.few b H)) qu
    ·simp [sumW]
   have:=e.len;omega
  have:=qw 160000000 (λQ=>m.flatMap (jm L lb Q)) M g;have:=d.len;omega
def Gf{tl:List dO}(A:sU tl facts)(x:Shape tl n p){ms:List AM}(a:ms.length=p.kids.length)(b:∀i (h:i<p.kids.length) (J:i<ms.length),jd facts.length p.kids[i].attrs.length ms[i])(h:dG p facts ms=some L):
  Adds facts.length p.attrs.length L:=by
 unfold dG at h
 cases x with
 |table k hks E D H=>
  rw [af k]at h;cases h;rw [H];exact BE A E D
 |sel k q hks f v H=>
  rw [ae qk,hks]at h;rw [hks]at a;obtain⟨m,rfl⟩:=cz.1 a;have c:=b 0 xz qr;simp only [hks,il]at c;simp only at h;rw [af k]at h;cases h;rw [H];exact KV p c
 |proj k q hks f s H=>
  rw [ae qk,hks]at h;rw [hks]at a;obtain⟨m,rfl⟩:=cz.1 a;have c:=b 0 xz qr;simp only [hks,il]at c;simp only at h;rw [ae qk,af k]at h;cases h;rw [H];exact Ge p c s
 |ren k q hks f H=>
  rw [ae qk,hks]at h;rw [hks]at a;obtain⟨m,rfl⟩:=cz.1 a;have c:=b 0 xz qr;simp only [hks,il]at c;simp only at h;rw [ae qk,ae qk]at h;cases h;rw [H];exact MV c
 |join k q r hks f u G z=>
  rw [ae qk,hks]at h;rw [hks]at a;obtain⟨t,M,rfl⟩:=wY a;have d:=b 0 xz qr;have C:=b 1 xz qr;simp only [hks,il,px]at d C;simp only at h;rw [af k]at h;cases h;obtain⟨l,o,j⟩:=z;rw [j];exact Fu d C o
 |union k q r hks f u e g=>
  rw [ae qk,hks]at h;rw [hks]at a;obtain⟨t,M,rfl⟩:=wY a;have d:=b 0 xz qr;have C:=b 1 xz qr;simp only [hks,il,px]at d C;simp only at h;rw [ae qk,af k]at h;cases h;rw [<-e]at d;rw [<-g]at C;exact BS d C
 |minus k q r hks f u e g=>
  rw [ae qk,hks]at h;rw [hks]at a;obtain⟨t,M,rfl⟩:=wY a;have d:=b 0 xz qr;have C:=b 1 xz qr;simp only [hks,il,px]at d C;simp only at h;rw [ae qk,ae qk]at h
  split at h
  ·cases h
   rw [e];exact O7 d C
  ·cases h
def MW(h:grp p=false):p.kind≠8/\∀q∈p.kids,grp q=false:=by
 rw [s4]at h;simp only [lw,eh,eW]at h;exact⟨h.1,λq H=>uu (h.2 q H)⟩
def Shape.kids{tl:List dO}(h:Shape tl n p):∀q∈p.kids,bP n tl q=true:=by
 cases h with
 |table _ H=>rw [H];simp
 |sel _ q H a=>rw [H];simpa using a
 |proj _ q H a=>rw [H];simpa using a
 |ren _ q H a=>rw [H];simpa using a
 |join _ q r H a b=>rw [H];simp [a,b]
 |union _ q r H a b=>rw [H];simp [a,b]
 |minus _ q r H a b=>rw [H];simp [a,b]
def Ag{tl:List dO}{facts:List dZ}(f:sU tl facts):∀(n:Nat) (p:Plan) (m:AM),bP n tl p=true->grp p=false->CW facts n p m->jd facts.length p.attrs.length m
 |0,_,_,_,_,h=>h.elim
 |n+1,p,m,v,g,⟨ms,l,e,r,L,q,b,j,d⟩=>by
  obtain⟨o,k⟩:=MW g;have s:=Dw v o
  have H:∀i (h:i<p.kids.length) (a:i<ms.length),jd facts.length p.kids[i].attrs.length ms[i]:=λi h a=>
   Ag f n _ _ (s.kids _ (am h)) (k _ (am h)) (e i h a)
  have:=(Gf f s l H q).perm b.symm;rw [d];exact this.clo j
def Fw{c:Nat}(h:jd n c m):bW (iw m)=m:=by
 have:∀(l:AM),(l.map (·.1)).Nodup->(∀q∈l,q.1=rowB q.2.row)->bW (iw l)=l:=by
  intro l
  induction a:l.length generalizing l with
  |zero=>intro _ _;rw [d8.1 a];rfl
  |succ k i=>
   intro f d;rcases rg l with rfl|⟨L,q,rfl⟩
   ·simp at a
   ·simp only [List.concat_eq_append]at a f d⊢
    simp only [bl,ap,ax]at f;have H:=dq.1 f;have e:iw (L++ [q])=iw L++ [(q.2.row,q.2.ways)]:=qr;rw [e,I7,i L (uu a) H.1 (λx b=>d x (eR _ b))];have O:=d q qr;rw [IZ (λx b E=>H.2.2 x.1 (aq.2 ⟨x,b,rfl⟩) q.1 qr (by rw [E];exact O.symm))];rw [<-O]
 exact this m h.nodup h.name
def uS{α:Type}(c:α->α->Int):List α->List α->Int
 | [],[]=>0
 | [],_::_=>-1
 |_::_,[]=>1
 |x::l,y::m=>if c x y≠0 then c x y else uS c l m
def Fx{c:α->α->Int}(hc:Order c):Order (uS c) where
 eq:=by
  intro a
  induction a with
  |nil=>intro b;cases b<;>simp [uS]
  |cons x l ih=>
   intro b
   cases b with
   |nil=>simp [uS]
   |cons y m=>
    simp only [uS,b9]
    split
    ·rename_i h;constructor
     ·intro h';exact(h h').elim
     ·rintro⟨rfl,_⟩;exact(h ((hc.eq _ _).2 rfl)).elim
    ·rename_i h
     have h:c x y=0:=uu h;rw [ih];have:=(hc.eq x y).1 h;simp [this]
 flip:=by
  intro a
  induction a with
  |nil=>intro b;cases b<;>simp [uS]
  |cons x l ih=>
   intro b
   cases b with
   |nil=>simp [uS]
   |cons y m=>
    simp only [uS]
    by_cases h:c x y=0
    ·have e:=(hc.eq x y).1 h;subst e
     simp [h,ih]
    ·have h':c y x≠0:=λe=>h ((hc.eq _ _).2 ((hc.eq _ _).1 e).symm)
     rw [af h,af h'];exact hc.flip x y
 trans:=by
  intro a
  induction a with
  |nil=>intro b d;cases b<;>cases d<;>simp [uS]
  |cons x l ih=>
   intro b d
   cases b with
   |nil=>simp [uS]
   |cons y m=>
    cases d with
    |nil=>simp [uS]
    |cons z n=>
     simp only [uS]
     by_cases h1:c x y=0
     ·have e:=(hc.eq x y).1 h1;subst e
      by_cases h2:c x z=0
      ·simp only [h1,h2,ne_eq,lm,ba];exact ih m n
      ·simp only [h1,h2,ne_eq,lm,ba,i9,a7];exactλ_ h=>h
     ·by_cases h2:c y z=0
      ·have e:=(hc.eq y z).1 h2;subst e
       simp only [h1,h2,ne_eq,lm,ba,i9,a7];exactλh _=>h
      ·simp only [h1,h2,ne_eq,i9,a7]
       intro h3 h4;have h5:=hc.trans x y z h3 h4;rw [af qk];exact h5
def Lb(a b:List V):lM a b=uS sW a b:=by
 induction a generalizing b with
 |nil=>cases b<;>rfl
 |cons x l i=>cases b with
  |nil=>rfl
  |cons y m=>simp only [lM,uS,i]
def BH(a:ByteArray):iV a a=false:=by simp [iV,List.lt_irrefl]
def Le{d:ByteArray}(H:iV a b=true)(h:iV b d=true):iV a d=true:=by
 simp only [iV,cE]at*;exact List.lt_trans H h
def XK(H:iV a b=false)(h:iV b a=false):a=b:=by
 simp only [iV,m5]at H h;have:=List.le_antisymm (List.not_lt.1 h) (List.not_lt.1 H)
 cases a;cases b
 simpa using Array.toList_inj.1 this
def Gg:Order y7 where
 eq a b:=by
  unfold y7
  by_cases h1:iV a b=true
  ·simp only [h1,a7]
   constructor
   ·intro h;omega
   ·rintro rfl;rw [BH]at h1;cases h1
  ·simp only [h1]
   by_cases h2:iV b a=true
   ·simp only [h2,a7]
    constructor
    ·intro h;simp at h
    ·rintro rfl;rw [BH]at h2;cases h2
   ·simp [h2]
    exact XK (uu h1) (uu h2)
 flip a b:=by
  unfold y7;have:iV a b=true->iV b a=true->False:=λh1 h2=>by have:=Le h1 h2;rw [BH]at this;cases this
  cases h1:iV a b<;>cases h2:iV b a<;>simp_all
 trans a b d:=by
  unfold y7
  cases h1:iV a b<;>cases h2:iV b d<;>simp
  ·split<;>simp
  ·split<;>simp
  ·split<;>simp
  ·rw [Le h1 h2];simp
def BT:Order sW:=by
 have H:Order (λa b:Int×ByteArray=>if dJ a.1 b.1=0 then y7 a.2 b.2 else dJ a.1 b.1):=by
  refine EX (c:=λa b:Int×ByteArray=>dJ a.1 b.1) (d:=λa b:Int×ByteArray=>y7 a.2 b.2) (λa=>(dM.eq _ _).2 rfl) (λa b=>dM.flip _ _) (λa b e=>dM.trans _ _ _) (λa b e h=>?_) (λa b h=>?_) (λa b=>Gg.flip _ _) (λa b e=>Gg.trans _ _ _)
  ·have:=(dM.eq _ _).1 h;simp [this]
  ·have h:=(dM.eq _ _).1 h
   rw [Gg.eq];cases a;cases b;simp at h⊢;simp [h]
 have f:Order (λa b:V=>if dJ a.kind b.kind=0 then(if dJ a.n b.n=0 then y7 a.text b.text else dJ a.n b.n)else dJ a.kind b.kind):=by
  refine EX (c:=λa b:V=>dJ a.kind b.kind) (d:=λa b:V=>if dJ a.n b.n=0 then y7 a.text b.text else dJ a.n b.n) (λa=>(dM.eq _ _).2 rfl) (λa b=>dM.flip _ _) (λa b e=>dM.trans _ _ _) (λa b e h=>?_) (λa b h=>?_) (λa b=>H.flip (a.n,a.text) (b.n,b.text)) (λa b e=>H.trans (a.n,a.text) (b.n,b.text) (e.n,e.text))
  ·have:=(dM.eq _ _).1 h;simp [this]
  ·have h:=(dM.eq _ _).1 h
   have:=H.eq (a.n,a.text) (b.n,b.text)
   dsimp only at this
   rw [this];cases a;cases b;simp at h⊢;simp [h]
 have:sW=λa b:V=>if dJ a.kind b.kind=0 then(if dJ a.n b.n=0 then y7 a.text b.text else dJ a.n b.n)else dJ a.kind b.kind:=by
  funext a b;simp only [sW,ne_eq,ite_not]
 rw [this];exact f
def wZ:Order lM:=by
 have:lM=uS sW:=by funext a b;exact Lb a b
 rw [this];exact Fx BT
def WU{s:UInt8}:∀{a b A B:List UInt8},s∉a->s∉b->a++s::A=b++s::B->a=b/\A=B
 | [],[],A,B,_,_,h=>⟨rfl,uu h⟩
 | [],y::b,A,B,_,H,h=>by simp only [cg,bE,b9]at h;exact(H (by rw [h.1];exact bk ..)).elim
 |x::a,[],A,B,d,_,h=>by simp only [cg,bE,b9]at h;exact(d (by rw [h.1];exact bk ..)).elim
 |x::a,y::b,A,B,d,H,h=>by
  simp only [bE,b9]at h;obtain⟨E,e⟩:=WU (λm=>d (b3 _ m)) (λm=>H (b3 _ m)) h.2;exact⟨by rw [h.1,E],e⟩
def dval(l:List UInt8):Nat:=l.foldl (λa c=>a*10+(c.toNat-48)) 0
def CX{u:Nat}(h:u<10):(UInt8.ofNat (48+u)).toNat=48+u:=by
 rw [UInt8.toNat_ofNat'];omega
def Gh(u:Nat):dval (fq u)=u:=by
 induction u using Nat.strongRecOn with
 |_ u i=>
  by_cases h:u<10
  ·rw [fq,dc h]
   simp only [dval,j1,B3,CX h];omega
  ·rw [fq,ew h]
   have:=i (u/10) qk;unfold dval at this⊢;rw [k7,this];simp only [j1,B3,CX (Nat.mod_lt u (by decide:0<10))];omega
def QB(u:Nat):∀c∈fq u,48<=c.toNat/\c.toNat<=57:=by
 induction u using Nat.strongRecOn with
 |_ u i=>
  intro c H
  by_cases h:u<10
  ·rw [fq,dc h]at H
   rw [bp.1 H,CX h];omega
  ·rw [fq,ew h]at H
   rcases cw.1 H with H|H
   ·exact i (u/10) qk c H
   ·have:=Nat.mod_lt u (by decide:0<10)
    rw [bp.1 H,CX this];omega
def Sf(u:Nat):fq u≠[]:=by
 by_cases h:u<10
 ·rw [fq,dc h];simp
 ·rw [fq,ew h];simp
def WV{n:Int}{c:UInt8}(h:c∈cm n):c.toNat=45\/(48<=c.toNat/\c.toNat<=57):=by
 unfold cm at h
 split at h
 ·rcases b8.1 h with rfl|h
  ·exact .inl rfl
  ·exact .inr (QB _ c h)
 ·exact .inr (QB _ c h)
def Fy(n:Int):∃c l,cm n=c::l/\(c.toNat=45\/(48<=c.toNat/\c.toNat<=57)):=by
 cases h:cm n with
 |nil=>
  unfold cm at h
  split at h
  ·cases h
  ·exact(Sf _ h).elim
 |cons c l=>exact⟨c,l,rfl,WV (n:=n) (by rw [h];exact bk ..)⟩
def WW{n m:Int}(h:cm n=cm m):n=m:=by
 have H:∀u l,fq u=45::l->False:=λu l e=>by
  have:=QB u 45 (by rw [e];exact bk ..);have a:(45:UInt8).toNat=45:=rfl;omega
 unfold cm at h
 split at h
 ·split at h
  ·have:=congrArg dval (List.cons.inj h).2
   rw [Gh,Gh]at this;omega
  ·exact(H _ _ h.symm).elim
 ·split at h
  ·exact(H _ _ h).elim
  ·have:=congrArg dval h
   rw [Gh,Gh]at this;omega
def CY(n:Int):(32:UInt8)∉cm n:=λh=>by
 have:=WV h;have H:(32:UInt8).toNat=32:=rfl;omega
def F0{c d:UInt8}{X Y:List UInt8}(h:iZ c++X=iZ d++Y):c=d/\X=Y:=by
 unfold iZ at h
 repeat' split at h
 all_goals(simp only [bE,cg,b9]at h)
 all_goals first
  |(obtain⟨a,H⟩:=h;exact⟨a,H⟩)
  |(obtain⟨_,a,H⟩:=h;first|exact⟨by simp_all,H⟩|(exact absurd a qu))
  |simp_all
def O9(c:UInt8):∃d l,iZ c=d::l/\d≠34:=by
 unfold iZ
 repeat' split
 ·exact⟨92,_,rfl,qu⟩
 ·exact⟨92,_,rfl,qu⟩
 ·exact⟨92,_,rfl,qu⟩
 ·exact⟨c,_,rfl,kf⟩
def zX(c:UInt8)(l:List UInt8):bf (c::l)=iZ c++bf l:=rfl
def SH:∀{a b A B:List UInt8},bf a++34::A=bf b++34::B->a=b/\A=B
 | [],[],A,B,h=>⟨rfl,by simpa [bf]using h⟩
 | [],y::b,A,B,h=>by
  obtain⟨d,l,e,H⟩:=O9 y;rw [zX,e]at h;simp only [bf,rp,cg,bE,cD,b9]at h;exact(H h.1.symm).elim
 |x::a,[],A,B,h=>by
  obtain⟨d,l,e,H⟩:=O9 x;rw [zX,e]at h;simp only [bf,rp,cg,bE,cD,b9]at h;exact(H h.1).elim
 |x::a,y::b,A,B,h=>by
  rw [zX,zX,cD,cD]at h;obtain⟨i,g⟩:=F0 h;obtain⟨f,E⟩:=SH g;exact⟨by rw [i,f],E⟩
def BV{s:ByteArray}(h:s.size=0):s=cS:=by
 obtain⟨⟨l⟩⟩:=s;have:l=[]:=d8.1 h;subst this;rfl
inductive zY:V->List UInt8->Prop
 |null:zY ⟨0,0,cS⟩ [110,117,108,108]
 |text (t:ByteArray):zY ⟨1,0,t⟩ (34::(bf (bytes t)++[34]))
 |num (n:Int):zY ⟨2,n,cS⟩ (cm n)
 |date (n:Int):zY ⟨3,n,cS⟩ (64::cm n)
 |no:zY ⟨4,0,cS⟩ [102,97,108,115,101]
 |yes:zY ⟨4,1,cS⟩ [116,114,117,101]
def Lf:hU true=[116,114,117,101]:=qv
def F1:hU false=[102,97,108,115,101]:=qv
def vL{v:V}(h:fB v=true):zY v (bytes (fD v)):=by
 unfold fD;rw [h];simp only [bS,b6,ba];obtain⟨k,n,t⟩:=v;unfold fB D6 at h;simp only at h⊢
 by_cases H:k=1
 ·subst H
  simp at h;have:n=0:=qk;subst this;simp only [a7,rD,bytes];exact .text t
 rw [ae H]
 by_cases a:t.size=0
 ·obtain rfl:=BV a
  rw [ae (by simp [a])]at h
  by_cases f:k=2
  ·subst f;simp only [a7,bytes];exact .num n
  by_cases d:k=3
  ·subst d;simp only [bytes];exact .date n
  by_cases b:k=4
  ·subst b
   simp at h;have:n=0\/n=1:=qk;rcases this with rfl|rfl
   ·simp only [bytes]
    have e:((0:Int)==1)=false:=rfl;rw [e,F1];exact .no
   ·simp only [bytes]
    have e:((1:Int)==1)=true:=rfl;rw [e,Lf];exact .yes
  ·rw [ae f,ae d,ae b]
   by_cases g:k=0
   ·subst g
    simp at h;have:n=0:=qk;subst this;exact .null
   ·simp [g,H,f,d,b]at h
 ·rw [af ⟨H,a⟩]at h;cases h
def Lg{u v:V}{a b A B:List UInt8}(j:zY u a)(g:zY v b)(h:a++32::A=b++32::B):u=v/\A=B:=by
 have i:∀{n:Int} {A:List UInt8} {d:UInt8} {l:List UInt8},d.toNat≠45->¬(48<=d.toNat/\d.toNat<=57)->cm n++A=d::l->False:=by
  intro n A d l p o H;obtain⟨c,m,e,k⟩:=Fy n;rw [e]at H;simp only [bE,b9]at H;rw [H.1]at k;omega
 cases j<;>cases g
 all_goals try simp only [bE,cg,cD,b9]at h
 all_goals first
  |exact(i qu qu h).elim
  |exact(i qu qu h.symm).elim
  |(exact absurd h.1 qu)
  |skip
 ·exact⟨rfl,uu h⟩
 ·obtain⟨f,E⟩:=SH h.2
  refine⟨?_,uu E⟩;rw [bytes_inj f]
 ·obtain⟨f,E⟩:=WU (CY _) (CY _) h
  exact⟨by rw [WW f],E⟩
 ·obtain⟨f,E⟩:=WU (CY _) (CY _) h.2
  exact⟨by rw [WW f],E⟩
 ·exact⟨rfl,uu h⟩
 ·exact⟨rfl,uu h⟩
def WX:∀{a b:List V},oH a->oH b->iO a=iO b->a=b
 | [],[],_,_,_=>rfl
 | [],v::b,_,_,h=>by simp [iO]at h
 |v::a,[],_,_,h=>by simp [iO]at h
 |v::a,u::b,f,d,h=>by
  have e:∀(v:V) (l:List V),iO (v::l)=bytes (fD v)++32::iO l:=λv l=>by simp [iO]
  rw [e,e]at h;obtain⟨g,E⟩:=Lg (vL (f v (bk ..))) (vL (d u (bk ..))) h;rw [g,WX (λx H=>f x (b3 _ H)) (λx H=>d x (b3 _ H)) E]
def Li{a b:List V}(d:oH a)(H:oH b)(h:rowB a=rowB b):a=b:=by
 refine WX d H ?_;have:=congrArg bytes h;simpa [rowB,bytes]using this
def Adds.inj{n c:Nat}{L:bQ}(h:Adds n c L):yj L:=λx a y H e=>Li (h.valid x a) (h.valid y H) e
def tK{α:Type}:List (Option α)->Option (List α)
 | []=>some []
 |none::_=>none
 |some x::l=>match tK l with
  |some r=>some (x::r)
  |none=>none
def vP{α:Type}:∀{l:List (Option α)} {r:List α},tK l=some r↔l=r.map some
 | [],r=>by
  cases r with
  |nil=>simp [tK]
  |cons y r=>simp [tK]
 |none::l,r=>by
  simp only [tK];constructor
  ·intro h;cases h
  ·intro h;cases r<;>simp at h
 |some x::l,r=>by
  simp only [tK]
  cases h:tK l with
  |none=>
   constructor
   ·intro h;cases h
   ·intro H
    cases r with
    |nil=>simp at H
    |cons y r=>
     simp only [ap,b9]at H;rw [vP.2 H.2]at h;cases h
  |some q=>
   have a:=vP.1 h;simp only [bo];constructor
   ·rintro rfl;rw [a];rfl
   ·intro H
    cases r with
    |nil=>simp at H
    |cons y r=>
     simp only [ap,b9,bo]at H;have:=vP.2 H.2;rw [h]at this;cases this;rw [H.1]
def SI{α:Type}:∀{l:List (Option α)},tK l=none↔none∈l
 | []=>by simp [tK]
 |none::l=>by simp [tK]
 |some x::l=>by
  simp only [tK,b8,reduceCtorEq,false_or];rw [<-SI]
  cases tK l<;>simp
instance(m:AM):Decidable (kG m):=inferInstanceAs (Decidable (_/\_))
def qJ(facts:List dZ):Nat->Plan->Option AM
 |0,_=>none
 |n+1,p=>match tK (p.kids.map (qJ facts n))with
  |none=>none
  |some ms=>match dG p facts ms with
   |none=>none
   |some L=>if kG (bW L)then some (fG (bW L))else none
def jd.perm{c:Nat}{m':AM}(p:m.Perm m')(h:jd n c m):jd n c m' where
 nodup:=((p.map _).nodup_iff).1 h.nodup
 len:=by rw [<-p.length_eq];exact h.len
 name:=λq hq=>h.name q (p.mem_iff.2 hq)
 valid:=λq hq=>h.valid q (p.mem_iff.2 hq)
 width:=λq hq=>h.width q (p.mem_iff.2 hq)
 few:=λq hq=>h.few q (p.mem_iff.2 hq)
 some:=λq hq=>h.some q (p.mem_iff.2 hq)
 yY:=λq hq=>h.yY q (p.mem_iff.2 hq)
 min:=λq hq=>h.min q (p.mem_iff.2 hq)
def Jg{α β:Type}{f g:α->List β}:∀(l:List α),(∀a∈l,(f a).Perm (g a))->(l.flatMap f).Perm (l.flatMap g)
 | [],_=>.refl _
 |x::l,h=>by
  simp only [fI];exact(h x (bk ..)).append (Jg l λa H=>h a (b3 _ H))
def Jh{f g:α->List β}{l m:List α}(h:l.Perm m)(H:∀a∈l,(f a).Perm (g a)):(l.flatMap f).Perm (m.flatMap g):=
 (Jg l H).trans (eQ g h)
def XL{M:AM}(p:m.Perm M)(b:(m.map (·.1)).Nodup)(n:ByteArray):qc n m=qc n M:=by
 have a:(M.map (·.1)).Nodup:=((p.map _).nodup_iff).1 b
 by_cases h:∃q∈m,q.1=n
 ·obtain⟨q,H,rfl⟩:=h
  rw [F8 b H,F8 a (p.mem_iff.1 H)]
 ·rw [yE (λq H e=>h ⟨q,H,e⟩),yE (λq H e=>h ⟨q,p.mem_iff.2 H,e⟩)]
def Dz{M:AM}(p:m.Perm M)(h:(m.map (·.1)).Nodup)(q:ByteArray×Ans):jH m q=jH M q:=by
 unfold jH;rw [XL p h]
def ZS:Option bQ->Option bQ->Prop
 |some L,some M=>L.Perm M
 |none,none=>True
 |_,_=>False
def Ji{tl:List dO}(E:Shape tl n p){ms M:List AM}(u:ms.length=p.kids.length)(b:M.length=p.kids.length)
  (s:∀i (h:i<ms.length) (f:i<M.length),(ms[i].Perm M[i])/\(ms[i].map (·.1)).Nodup):ZS (dG p facts ms) (dG p facts M):=by
 have one:∀q,p.kids=[q]->∃m j,ms=[m]/\M=[j]/\m.Perm j:=by
  intro q k;rw [k]at u b;obtain⟨m,rfl⟩:=cz.1 u;obtain⟨j,rfl⟩:=cz.1 b;exact⟨m,j,rfl,rfl,(s 0 qr qr).1⟩
 have two:∀q r,p.kids=[q,r]->∃e d K L,ms=[e,d]/\M=[K,L]/\e.Perm K/\d.Perm L/\(d.map (·.1)).Nodup:=by
  intro q r k;rw [k]at u b;obtain⟨e,d,rfl⟩:=wY u;obtain⟨K,L,rfl⟩:=wY b;exact⟨e,d,K,L,rfl,rfl,(s 0 qr qr).1,(s 1 qr qr).1,(s 1 qr qr).2⟩
 unfold dG
 cases E with
 |table k H N g b=>rw [af k,af k];exact .refl _
 |sel k q H l D b=>
  obtain⟨m,j,rfl,rfl,h⟩:=one q H;simp only [k,H,reduceIte,dT];exact eQ _ h
 |proj k q H l G b=>
  obtain⟨m,j,rfl,rfl,h⟩:=one q H;simp only [k,H,reduceIte,dT];exact eQ _ h
 |ren k q H l b=>
  obtain⟨m,j,rfl,rfl,h⟩:=one q H;simp only [k,H,reduceIte,dT];exact eQ _ h
 |join k q r H l C t J=>
  obtain⟨e,d,K,L,rfl,rfl,g,f,_⟩:=two q r H;simp only [k,H,reduceIte,dT];exact Jh g λa _=>eQ _ f
 |union k q r H l C A z=>
  obtain⟨e,d,K,L,rfl,rfl,g,f,_⟩:=two q r H;simp only [k,H,reduceIte,dT];exact(eQ _ g).append (eQ _ f)
 |minus k q r H l C A z=>
  obtain⟨e,d,K,L,rfl,rfl,g,f,t⟩:=two q r H;simp only [k,H,reduceIte,dT]
  have o:(e.all λq=>(jH d q).isSome)=K.all λq=>(jH L q).isSome:=by
   rw [Bool.eq_iff_iff,aM,aM];constructor
   ·intro h x v;rw [<-Dz f t];exact h x (g.mem_iff.2 v)
   ·intro h x v;rw [Dz f t];exact h x (g.mem_iff.1 v)
  rw [o]
  split
  ·refine Jh g λa _=>?_
   unfold lU;rw [Dz f t]
  ·trivial
def Pg{tl:List dO}{facts:List dZ}(D:sU tl facts):∀(n:Nat) (p:Plan),bP n tl p=true->grp p=false->
  (∀m,CW facts n p m->∃g,qJ facts n p=some g/\m.Perm g)/\(SA facts n p->qJ facts n p=none)
 |0,p,J,_=>by simp [bP]at J
 |n+1,p,J,Q=>by
  obtain⟨T,z⟩:=MW Q;have u:=Dw J T;have N:=λq (C:q∈p.kids)=>Pg D n q (u.kids q C) (z q C)
  have kids:∀ms:List AM,ms.length=p.kids.length->(∀i (h:i<p.kids.length) (j:i<ms.length),CW facts n p.kids[i] ms[i])->∃a,tK (p.kids.map (qJ facts n))=some a/\a.length=p.kids.length/\
    (∀i (h:i<ms.length) (j:i<a.length),(ms[i].Perm a[i])/\(ms[i].map (·.1)).Nodup)/\(∀i (h:i<p.kids.length) (j:i<ms.length),jd facts.length p.kids[i].attrs.length ms[i])/\∀i (h:i<p.kids.length) (j:i<a.length),jd facts.length p.kids[i].attrs.length a[i]:=by
   intro ms l v;have s:∀i (h:i<p.kids.length) (j:i<ms.length),jd facts.length p.kids[i].attrs.length ms[i]:=λi h j=>Ag D n _ _ (u.kids _ (am h)) (z _ (am h)) (v i h j);have x:∀i (h:i<p.kids.length),∃g,qJ facts n p.kids[i]=some g/\(ms[i]' qk).Perm g:=λi h=>(N _ (am h)).1 _ (v i h qk);refine⟨(p.kids.map λq=>(qJ facts n q).getD []),?_,qr,λi h j=>?_,s,λi h j=>?_⟩
   ·rw [vP,cr]
    refine c8 λq C=>?_;obtain⟨i,P,rfl⟩:=bN C;obtain⟨g,e,_⟩:=x i P;simp [e]
   ·obtain⟨g,e,d⟩:=x i qk
    simp only [ei,e,Option.getD_some];exact⟨d,(s i qk h).nodup⟩
   ·obtain⟨g,e,d⟩:=x i h
    simp only [ei,e,Option.getD_some];exact(s i h qk).perm d
  refine⟨?_,?_⟩
  ·rintro m ⟨ms,l,v,K,L,t,d,s,rfl⟩
   obtain⟨a,G,o,k,r,A⟩:=kids ms l v;have H:=Ji (facts:=facts) u l o k;rw [t]at H
   cases b:dG p facts a with
   |none=>rw [b]at H;exact H.elim
   |some M=>
    rw [b]at H;have H:K.Perm M:=H;have E:=(Gf D u l r t).perm d.symm;have f:L.Perm M:=d.trans H;refine⟨fG (bW M),?_,Lc f E.inj⟩;simp only [qJ,G,b];rw [af ((Jf f E.inj).1 s)]
  ·rintro(⟨i,h,O⟩|⟨ms,l,v,h⟩)
   ·have:tK (p.kids.map (qJ facts n))=none:=by
     rw [SI,aq];exact⟨p.kids[i],am h,(N _ (am h)).2 O⟩
    simp only [qJ,this]
   ·obtain⟨a,G,o,k,r,A⟩:=kids ms l v
    have H:=Ji (facts:=facts) u l o k;rcases h with t|⟨K,L,t,d,s⟩
    ·rw [t]at H
     cases b:dG p facts a with
     |none=>simp only [qJ,G,b]
     |some M=>rw [b]at H;exact H.elim
    ·rw [t]at H
     cases b:dG p facts a with
     |none=>rw [b]at H;exact H.elim
     |some M=>
      rw [b]at H;have H:K.Perm M:=H;have E:=(Gf D u l r t).perm d.symm;have f:L.Perm M:=d.trans H;simp only [qJ,G,b];rw [ae (λh=>s ((Jf f E.inj).2 h))]
def Jj(x:Ans):List Ans->List Ans
 | []=>[x]
 |y::l=>if lM x.row y.row<0 then x::y::l else y::Jj x l
def sortA(l:List Ans):List Ans:=l.foldr Jj []
def Jk(x:Ans):∀l,(Jj x l).Perm (x::l)
 | []=>.refl _
 |y::l=>by
  simp only [Jj]
  split
  ·exact .refl _
  ·exact((Jk x l).cons y).trans (.swap x y l)
def xg:∀l,(sortA l).Perm l
 | []=>.refl _
 |x::l=>(Jk x (sortA l)).trans ((xg l).cons x)
end Go.Proofs.Z
