/- A part of the proof. -/
import Derived.Shelf.Spec.SlicesGrow
import Derived.Test.YtgeljjfmcmbejaaGreatDoorPRp5
set_option linter.all false
set_option linter.deprecated false
open Go.Proofs.Tryz renaming prog→aa,results117→rT
open List renaming length_nil→a9,length→aR,replicate→av,flatten_cons→fj,length_cons→an,zip_cons_cons→eO,zip_nil_left→eZ,contains_nil→dx,set_cons_succ→pw,set_cons_zero→pH,mem_flatten→gH,toList_toArray→ly
open Nat renaming reduceAdd→ck
open Option renaming map→bB
set_option maxRecDepth 100000
set_option maxHeartbeats 4000000
namespace Go.Proofs
open Go.Shelf
def zQ{P:Program}{f:FuncId}{B:Func}(h:((P.funcs[f]?).map λx=>{B with name:=x.name})=P.funcs[f]?)(H:(P.funcs[f]?).map (λx=>x.name== "runtime.NumGoroutine")=some false):Bears P f B:=by
 cases a:P.funcs[f]? with
 |none=>rw [a]at H;cases H
 |some x=>
  rw [a]at h H;exact⟨x.name,gm H,by rw [a,<-h];rfl⟩
def Tryz.growW_ren:Go.Shelf.Ren:=⟨λ|4=>381|n=>n,λ|22=>72|25=>164|3=>3|4=>4|9=>9|20=>20|0=>0|n=>n,λ|n=>n⟩
def Tryz.growW:Go.Proofs.Lays8.n4 aa Tryz.growW_ren:=by constructor<;>first|kernel_rfl|(intro;kernel_rfl)|exact zQ qq qq|(constructor<;>first|kernel_rfl|(intro;kernel_rfl)|exact zQ qq qq)
def Tryz.growI_ren:Go.Shelf.Ren:=⟨λ|4=>127|n=>n,λ|22=>35|25=>3|3=>3|4=>4|9=>9|20=>20|0=>0|n=>n,λ|n=>n⟩
def Tryz.growI:Go.Proofs.Lays8.n4 aa Tryz.growI_ren:=by constructor<;>first|kernel_rfl|(intro;kernel_rfl)|exact zQ qq qq|(constructor<;>first|kernel_rfl|(intro;kernel_rfl)|exact zQ qq qq)
end Go.Proofs
namespace Go.Proofs.Z
open Go.au
def S1:aF aa 381:=λ_ _=>qq
def S2:aF aa 127:=λ_ _=>qq
def YK{ρ:Go.Shelf.Ren}(L:Lays8.n4 aa ρ){f e sz by':Nat}{z:Value}(N:ρ.f 4=f)(O:ρ.t 25=e)(t:aF aa f)(hi:(aa.info? e).map (λi=>(i.zero,i.size,i.bytes))=some (some z,sz,by'))(s:z.cells.size=sz)(U:0<sz)(n:Nat)(J:n*by'<=140737488355328)(E:n<=1000000000000):
  fV aa f [.pd NIL,.pd (I (n:Int))] [] [] (λres T=>res= .own ⟨e,sz,[]⟩/\T=[]):=by
 refine⟨t,λw G vals p q v _=>?_⟩;have Q:vals.getD 0 undef= .slice none 0 0:=aH.aC (w:=w) (G:=G) (v 0 qr);have P:vals.getD 1 undef= .int .i64 (n:Int):=aH.aC (w:=w) (G:=G) (v 1 qr)
 have x:vals= #[.slice none 0 0,.int .i64 (n:Int)]:=by
  apply d6
  ·simpa using q
  ·intro i a K
   have H:vals.size=2:=uu q
   match i,a with
   |0,_=>simpa [Array.getD,H]using Q
   |1,_=>simpa [Array.getD,H]using P
 rw [x];subst N O;obtain⟨A,a,C,H,l⟩:=info_parts hi
 by_cases h:n=0
 ·subst h
  refine(Any8.slices_Grow_room L none 0 0 0 w qk qk qk qk).mono ?_;rintro e u ⟨rfl,rfl⟩;exact⟨.own ⟨_,sz,[]⟩,[],G,⟨rfl,rfl⟩,λ_ _ h=>h,λ_ _ h=>.inl h,p.lt,Kept.refl _ _ _,⟨_,rfl,.inl ⟨rfl,rfl⟩⟩,λr m h=>xc,λr m h=>xc⟩
 ·refine(Any8.slices_Grow_grow L A z a C qk none 0 0 n [] w qk qk (by rw [l];simpa using J) qk qr qr qr).mono ?_
  rintro e u ⟨rfl,rfl⟩;have M:=grownCap_ge w (0+n) 0 (ρ.t 25);have d:=grownCap_le_maxLen w (0+n) 0 (ρ.t 25) kb;refine⟨.own ⟨_,sz,[]⟩,[],G,⟨rfl,rfl⟩,λ_ _ h=>h,λ_ _ h=>.inl h,λb o h=>by have:=p.lt b o h;simp;omega,?_,⟨_,rfl,.inr ⟨w.heap.size,_,_,rfl,a3 _,λo D=>by have:=p.lt _ _ D;omega,heap_alloc_new w.drew _,?_,qr,d,λk g=>by simp at g,λk j g=>by simp at g⟩⟩,λr m h=>xc,λr m h=>xc⟩
  ·exact Kept.GY ((zB w).trans (bF w.drew _)).toBelow (λh=>xa)
  ·simp only [io,dp,a9,size_zeroCells,s]
   rw [cx,<-d7];congr 1;omega
def aqc:(aa.info? 164).map (λi=>(i.zero,i.size,i.bytes))=some (some (.agg #[.slice none 0 0,.slice none 0 0]),2,48):=qq
def aqd:(aa.info? 3).map (λi=>(i.zero,i.size,i.bytes))=some (some (.int .i64 0),1,8):=qq
def LN(n:Nat)(h:n<=1000000000000):fV aa 381 [.pd NIL,.pd (I (n:Int))] [] [] (λres M=>res= .own ⟨164,2,[]⟩/\M=[]):=
 YK Tryz.growW rfl rfl S1 aqc rfl qu n qk qk
def LO(n:Nat)(h:n<=1000000000000):fV aa 127 [.pd NIL,.pd (I (n:Int))] [] [] (λres M=>res= .own ⟨3,1,[]⟩/\M=[]):=
 YK Tryz.growI rfl rfl S2 aqd rfl qu n qk qk
def FY{α:Type}(l:List (List α))(k:Nat):((l.take k).flatten).length<=l.flatten.length:=by
 rw [<-cK k l,eC,bd];simp
def FZ(L:List (List Int))(o:L.length<=1000000000)(p:L.flatten.length<=1000000000000):bg aa 75 [.pd (.list 1 (L.map ints))] [ints L.flatten]:=by
 refine bg.mk Tryz.func75 λw G=>?_;refine ac ?_;refine R.fU (λ(k:Nat) s=>St.lp [0,2,6,8,9,10,23,24,25,26,27,28,29,30,31,32,33,34,35] [(11,.pd (I k)),(3,.pd (I (((L.take k).flatten).length:Nat)))] [] [] [] [] s) (λ(k:Nat)=>k<=L.length) (λ(k:Nat)=>L.length-k) (0) qk ?_;rintro k d;refine ai ?_;refine⟨λh=>?_,λh=>?_⟩
 ·have H:k<L.length:=uu h
  have b:=FY L (k+1)
  have hsn:((L.take (k+1)).flatten).length=((L.take k).flatten).length+L[k].length:=by
   rw [bh H,eC,bd];simp
  have j:IntKind.i64.wrap (((((L.take k).flatten).length:Nat):Int)+(L[k].length:Int))=((((L.take (k+1)).flatten).length:Nat):Int):=q8;have g:decide (((((L.take (k+1)).flatten).length:Nat):Int)<0)=false:=by apply b7;omega
  apply aj;simp only [go_sem,↓reduceIte,getD_map,H,j,g,wrapN (k:=k) qk];repeat refine⟨qk,?_⟩
  refine R.fE (k+1) qk
 have a:¬k<L.length:=uu h;have e:L.take k=L:=bi qk;refine z5 e ?_;refine R.ig xp 6 xp rfl rfl (ah qn) ze (LO L.flatten.length qk) (λr m h=>xc) (λr h=>xy) ?_;rintro f M ⟨rfl,rfl⟩ n;clear n;simp only [Behind];refine ac ?_;clear a e h d;refine R.fU (λ(k:Nat) s=>St.lp [2,25,26,35] [(27,.pd (I k)),(6,.own 6)] [] [] [] [(6,⟨3,1,((L.take k).flatten).map I⟩)] s) (λ(k:Nat)=>k<=L.length) (λ(k:Nat)=>L.length-k) (0) qk ?_;rintro k d;refine ai ?_;refine⟨λh=>?_,λh=>?_⟩
 ·have H:k<L.length:=uu h
  have b:=FY L (k+1)
  have hsn:(L.take (k+1)).flatten=(L.take k).flatten++L[k]:=by
   rw [bh H,eC];simp
  rw [hsn,bd]at b;refine z7 H ?_;refine R.append (r:=⟨3,1,((L.take k).flatten).map I⟩) (es:=L[k].map I) rfl rfl (ah qn) rfl rfl rfl rfl sl35 rfl zq qr (congrArg (bB aR) Gz) rfl (λi hi=>xt) (by show _*iQ aa 3<=_;rw [Gy];simp only [al];omega) w9 ?_;apply ev8;simp only [go_sem,wrapN (k:=k) qk];refine R.fE (k+1) qk (l:=kh)
 have a:¬k<L.length:=uu h;have e:L.take k=L:=bi qk;refine z5 e ?_;refine R.dI 6 rfl rfl ?_;simp only [go_sem];refine R.rW ?_;rfl
def OH(L:List (List W))(o:L.length<=1000000000)(p:L.flatten.length<=1000000000000):bg aa 352 [.pd (.list 1 (L.map ways))] [ways L.flatten]:=by
 refine bg.mk Tryz.func352 λw G=>?_;refine ac ?_;refine R.fU (λ(k:Nat) s=>St.lp [0,2,6,8,9,10,23,24,25,26,27,28,29,30,31,32,33,34,35] [(11,.pd (I k)),(3,.pd (I (((L.take k).flatten).length:Nat)))] [] [] [] [] s) (λ(k:Nat)=>k<=L.length) (λ(k:Nat)=>L.length-k) (0) qk ?_;rintro k d;refine ai ?_;refine⟨λh=>?_,λh=>?_⟩
 ·have H:k<L.length:=uu h
  have b:=FY L (k+1)
  have hsn:((L.take (k+1)).flatten).length=((L.take k).flatten).length+L[k].length:=by
   rw [bh H,eC,bd];simp
  have j:IntKind.i64.wrap (((((L.take k).flatten).length:Nat):Int)+(L[k].length:Int))=((((L.take (k+1)).flatten).length:Nat):Int):=q8;have g:decide (((((L.take (k+1)).flatten).length:Nat):Int)<0)=false:=by apply b7;omega
  apply aj;simp only [go_sem,↓reduceIte,getD_map,H,j,g,wrapN (k:=k) qk];repeat refine⟨qk,?_⟩
  refine R.fE (k+1) qk
 have a:¬k<L.length:=uu h;have e:L.take k=L:=bi qk;refine z5 e ?_;refine R.ig xp 6 xp rfl rfl (ah qn) ze (LN L.flatten.length qk) (λr m h=>xc) (λr h=>xy) ?_;rintro f M ⟨rfl,rfl⟩ n;clear n;simp only [Behind];refine ac ?_;clear a e h d;refine R.fU (λ(k:Nat) s=>St.lp [2,25,26,35] [(27,.pd (I k)),(6,.own 6)] [] [] [] [(6,⟨164,2,((L.take k).flatten).map way⟩)] s) (λ(k:Nat)=>k<=L.length) (λ(k:Nat)=>L.length-k) (0) qk ?_;rintro k d;refine ai ?_;refine⟨λh=>?_,λh=>?_⟩
 ·have H:k<L.length:=uu h
  have b:=FY L (k+1)
  have hsn:(L.take (k+1)).flatten=(L.take k).flatten++L[k]:=by
   rw [bh H,eC];simp
  rw [hsn,bd]at b;refine z7 H ?_;refine R.append (r:=⟨164,2,((L.take k).flatten).map way⟩) (es:=L[k].map way) rfl rfl (ah qn) rfl rfl rfl rfl LQ rfl zI qr (congrArg (bB aR) Fa) rfl (λi hi=>xt) (by show _*iQ aa 164<=_;rw [E8];simp only [al];omega) w9 ?_;apply ev8;simp only [go_sem,wrapN (k:=k) qk];refine R.fE (k+1) qk (l:=kh)
 have a:¬k<L.length:=uu h;have e:L.take k=L:=bi qk;refine z5 e ?_;refine R.dI 6 rfl rfl ?_;simp only [go_sem];refine R.rW ?_;rfl
end Go.Proofs.Z
namespace Go.au
section
variable {C:Cx}{s:St}{all:Array Oper}{k:List KI}
def R.aqe{X:Type}{id:Nat}(T:X->Nat->St)(I:X->Nat->Prop)(es:List (Nat×Nat))(f:Nat)(hm:C.P.follows .mixedOrders=true)(hE:(all.toList.zipIdx).all (λp=>vY p.2 p.1)=true)(q:ZF all es=true)(U:gu (Array.replicate all.size true)=f)
  (v:X)(hx0:I v 0)(h0:R C (.code (.region id all true)::k) (T v 0)->R C (.code (.region id all true)::k) s)
  (step:∀p∈es,∀x,I x p.1->R C (.ops all ((all.toList.drop p.2).take 1) :: .aU (λt=>∃b,I b (p.1|||2 ^ p.2)/\t=T b (p.1|||2 ^ p.2))::k) (T x p.1))(done:∀x,I x f->R C k (T x f)):R C (.code (.region id all true)::k) s:=by
 refine h0 ?_;unfold ZF at q;simp only [bj]at q;have q:=(aM.1 q.2);refine R.uv hm hE (λL t=>(∃x,I x (gu L)/\t=T x (gu L))/\gu L∈(0::es.map λp=>p.1|||2 ^ p.2)) ?_ ?_ ?_
 ·have:gu (Array.replicate all.size false)=0:=by
   apply mN;intro j;rw [lq];simp [Array.getD]
  exact⟨⟨v,by rw [this];exact hx0,by rw [this]⟩,by rw [this];exact bk ..⟩
 ·rintro L t i o Q J D l ⟨⟨x,r,rfl⟩,m⟩
  have N:=(bm.1 J).1
  have K:enB all (gu L) i=true:=by
   unfold enB;rw [lq,D,J];simp only [cH,eJ,aM];intro e Z;rw [lq]
   cases hb:Region.binds .any e with
   |false=>rfl
   |true=>rw [l e (uu Z) hb];rfl
  have n:=(aM.1 (q _ m)) i (uu N);rw [K]at n;have n:(gu L,i)∈es:=uu n;have d:=step _ n x r
  have O:gu (L.setIfInBounds i true)=gu L|||2 ^ i:=by
   apply mN;intro j;rw [lq,nf,lq,ri]
   by_cases c:i=j
   ·subst c;rw [uq (by rw [Q];exact N)];simp
   ·rw [getD_set_ne false c];simp [c]
  have G:(all.toList.drop i).take 1=[o]:=by
   have:all.toList[i]? =some o:=uu J;obtain⟨H,M⟩:=kv.1 this;rw [ij H,M];rfl
  simp only [G]at d;have:(λt=>∃b,I b (gu L|||2 ^ i)/\t=T b (gu L|||2 ^ i))=λt=>∃b,I b (gu (L.setIfInBounds i true))/\t=T b (gu (L.setIfInBounds i true)):=by rw [O]
  rw [this]at d;intro a w E g;have H:=d a w E g;simp only [fin]at H⊢
  have u:∀e a w,fin C (.aU (λt=>∃b,I b (gu (L.setIfInBounds i true))/\t=T b (gu (L.setIfInBounds i true)))::k) e a w->fin C (.aU (λt=>(∃b,I b (gu (L.setIfInBounds i true))/\t=T b (gu (L.setIfInBounds i true)))/\gu (L.setIfInBounds i true)∈(0::es.map λp=>p.1|||2 ^ p.2))::k) e a w:=by
   intro e a w h
   cases e with
   |normal=>
    obtain⟨s',E',⟨b,z,rfl⟩,g'⟩:=h;exact⟨_,E',⟨⟨b,z,rfl⟩,b3 _ (aq.2 ⟨_,n,O.symm⟩)⟩,g'⟩
   |exit _=>exact h
   |goto _=>exact h
   |ret=>exact h
   |panic _=>exact h
   |outgrown=>exact h
  simp only [wpList]at H⊢
  split
  ·rename_i A
   rw [af A]at H;rcases H with H|⟨H,a',P,M⟩
   ·exact .inl (Oper.EM (λa w h=>u .normal a w h) (λe a w _ h=>u e a w h) H)
   ·exact .inr ⟨H,a',P,u _ _ _ M⟩
  ·rename_i A
   rw [ae A]at H;exact u .normal _ _ H
 ·rintro t ⟨⟨x,r,rfl⟩,_⟩
  rw [U]at r⊢;exact done x r
end
section
variable {C:Cx}{s:St}{a:Act}{w w':World}{E:Env}{k:List KI}
def aB.aqf(g:aB C s a w E){t:Nat}{cs cs':List SV}(o:s.var t=some cs)(D:cs'.length=cs.length)
  (x:∀v j,j<cs.length->Rel C.P w E s.row v (cs.getD j .dead)->Rel C.P w E s.row v (cs'.getD j .dead)):aB C (s.setVar t cs') a w E:=by
 have b:∀j c,(s.setVar t cs').var j=some c->(j=t/\c=cs')\/(j≠t/\s.var j=some c):=by
  intro j c h;simp only [St.var,St.setVar,jR]at h
  split at h
  ·cases h;exact .inl ⟨kf,rfl⟩
  ·exact .inr ⟨kf,h⟩
 have H:∀j c,(s.setVar t cs').var j=some c->∃k,s.var j=some k:=by
  intro j c h;rcases b j c h with⟨rfl,_⟩|⟨_,h⟩
  ·exact⟨cs,o⟩
  ·exact⟨c,h⟩
 exact{
  kept:=g.kept
  maps:=g.maps
  aZ:=g.aZ
  bM:=g.bM
  bI:=g.bI
  defers:=g.defers
  size:=g.size
  g0:=g.g0
  g1:=g.g1
  tab:=g.tab
  gw:=g.gw
  slots:=g.slots
  aV:=g.aV
  vars:=λj c h=>by
   rcases b j c h with⟨rfl,rfl⟩|⟨A,h⟩
   ·obtain⟨n,e,m,u,f⟩:=g.vars j cs o
    exact⟨n,e,m,by rw [D];exact u,λi q=>⟨(f i qk).1,x _ i qk (f i qk).2⟩⟩
   ·exact g.vars j c h
  rows:=g.rows
  boxes:=g.boxes
  vv:=λj J c k h l G=>by
   obtain⟨_,h⟩:=H j c h;obtain⟨_,l⟩:=H J k l;exact g.vv j J _ _ h l G
  rr:=g.rr
  vr:=λj c i r p h q z=>by obtain⟨_,h⟩:=H j c h;exact g.vr j _ i r p h q z
  bb:=g.bb
  bv:=λj T c k h d=>by obtain⟨_,d⟩:=H T k d;exact g.bv j T c _ h d
  br:=g.br}
def R.IL(t j i:Nat)(e:TypeId)(sz:Nat){cs:List SV}(hr0:C.fP i=none)(m:s.var t=some cs)(A:j<cs.length)(o:cs.getD j .dead= .pd (.raw (.slice none 0 0)))
  (h:R C k ((s.newRow i ⟨e,sz,[]⟩).setVar t ((cs.map (SV.aK i)).set j (.own i)))):R C k s:=by
 intro a w E g;have u:=g.row (i:=i) (r':=⟨e,sz,[]⟩) (w':=w) none (Keeps.refl _ _) g.kept (a3 _) (λp hp=>jb) (λ_ _ _=>rfl) (.inl ⟨rfl,rfl⟩) (λb z h=>xa);have d:(s.newRow i ⟨e,sz,[]⟩).var t=some (cs.map (SV.aK i)):=by rw [St.Nc,m];rfl
 have G:=u.aqf (cs':=(cs.map (SV.aK i)).set j (.own i)) d qr (λv q n H=>by
  by_cases e:q=j
  ·subst e
   have f:q<cs.length:=uu n;have l:((cs.map (SV.aK i)).set q (.own i)).getD q .dead= .own i:=by simp [f]
   have x:(cs.map (SV.aK i)).getD q .dead= .pd (.raw (.slice none 0 0)):=by rw [dB _ rfl,o];rfl
   rw [l];rw [x]at H;have:=aH.aC H;exactλr _=>.inl ⟨qr,this⟩
  ·have l:((cs.map (SV.aK i)).set j (.own i)).getD q .dead=(cs.map (SV.aK i)).getD q .dead:=by
    rw [ag,g8 (bt e),ag]
   rw [l];exact H)
 exact h a w _ G
end
def Wx{s:St}:∀{l:List (Nat×dQ)},(∀p∈l,s.map p.1=some p.2)->Hf s l
 | [],_=>trivial
 |p::l,h=>⟨h p (bk ..),Wx λq H=>h q (b3 _ H)⟩
def MN{α:Type}:∀{l:List (Nat×α)},(l.map (·.1)).Nodup->∀p∈l,lk p.1 l=some p.2
 | [],_,p,h=>xy
 |(j,x)::l,H,p,h=>by
  simp only [ap,dE]at H;simp only [lk];rcases b8.1 h with rfl|h
  ·simp
  ·rw [ae (λe=>H.1 (aq.2 ⟨p,h,e.symm⟩))];exact MN H.2 p h
def YL{α:Type}{r:Nat}:∀{l:List (Nat×α)},lk r l=none->r∉l.map (·.1)
 | [],_=>qr
 |(j,x)::l,h=>by
  simp only [lk]at h
  split at h
  ·cases h
  ·rename_i H
   simp only [ap,b8,not_or];exact⟨λe=>H e.symm,YL h⟩
end Go.au
namespace Go.Proofs.Z
open Go.au
def GF:aF aa 117:=λ_ _=>qq
structure S3(n:Nat)(L:List (List Int)):Prop where
 len:L.length<=n
 ne:∀c∈L,c≠[]
 rng:∀x∈L.flatten,0<=x/\x.toNat<n
 nd:L.flatten.Nodup
abbrev J5(g:Gr):QV:=λ_ res xs vars rows=>∃L,S3 g.n L/\res= .ret/\xs=[.pd (lls L)]/\vars=[]/\rows=[]
abbrev aqg(g:Gr)(ws:List W)(hold:Bool):(Nat->Nat)->mg->List SV->List (Nat×List SV)->List (Nat×Row)->Prop:=λdn res xs vars rows=>
 ∃order,order.Nodup/\(∀x∈order,0<=x/\x.toNat<g.n)/\res= .ret/\xs=[.aA 20011 0,.pd (I 0)]/\vars=[(20011,dL ⟨g,ws,hold,order,incs g,av g.n 0⟩ (dn 20011))]/\rows=[(20012,cO (av g.n 0)),(20013,tu [])]
def F5{n:Nat}{l:List Int}(h:setB n l=true):l.length<=n:=by
 have key:∀j (hj:j<l.length),(j:Int)<=l[j]/\l[j]<n:=by
  intro j
  induction j with
  |zero=>
   intro hj;have H:=aM.1 h 0 (cd.2 hj);simp only [qy,bj,cE]at H;have e:l.getD 0 0=l[0]:=j5;rw [e]at H;omega
  |succ j i=>
   intro hj;have H:=aM.1 h (j+1) (cd.2 hj);have d:=i qk;simp only [qy,bj,cE,lc,du,cy]at H;have e:l.getD (j+1) 0=l[j+1]:=j5;have E:l.getD j 0=l[j]:=by simp [ag,show j<l.length by omega]
   rw [e,E]at H;rcases H.2 with a|a
   ·omega
   ·omega
 rcases gj l.length with b|b
 ·omega
 ·have:=key (l.length-1) qk;omega
def kY:∀(n:Nat) (l:List Int),l.Nodup->(∀x∈l,0<=x/\x.toNat<n)->l.length<=n
 |0,l,_,h=>by
  cases l with
  |nil=>simp
  |cons x l=>have:=(h x bk).2;omega
 |n+1,l,d,h=>by
  by_cases m:(n:Int)∈l
  ·have f:=kY n (l.erase (n:Int)) (d.erase _) (λx H=>by
    have b:=(List.Nodup.mem_erase_iff d).1 H;have a:=h x b.2;exact⟨a.1,by have:=b.1;omega⟩)
   rw [List.length_erase_of_mem m]at f;omega
  ·exact pP (kY n l d λx H=>by
    have a:=h x H;refine⟨a.1,?_⟩;have:x≠n:=λe=>m (e▸H);omega)
def LR(v v1 v2:Value)(hold:Bool)(a P p:Option Addr)(b c0 N d n C:Nat)(w:World):(Instr.build 218 #[(0,.agg #[v,v1,v2]),(1,.slice a b c0),(2,.bool hold),(5,.slice P N d),(4,.slice p n C)]).run aa w= .ok (.agg #[v,v1,v2,.slice a b c0,.bool hold,.slice none 0 0,.slice p n C,.slice P N d,.slice none 0 0,.slice none 0 0]) w:=qq
def LS{w:World}{G:Pub}{v:Value}{sz:Nat}{ds:List PD}(h:Rd w G v (.list sz ds)):∃p n c,v= .slice p n c:=by
 rcases h.jM with⟨_,e,_⟩|⟨_,_,_,e,_⟩
 ·exact⟨_,_,_,e⟩
 ·exact⟨_,_,_,e⟩
def GG:aF aa 193:=λ_ _=>qq
def GJ:aF aa 192:=λ_ _=>qq
def GM(n:List Bool)(v:Int)(h:0<=v)(h1:v.toNat<n.length):aG aa 193 [.pd (I v),.ref (bools n) 0] [B (n.getD v.toNat false)]:=by
 refine aG.mk Tryz.func193 λw G=>?_;have e:n[v.toNat]=n.getD v.toNat false:=yp;refine z8 h1 e ?_;refine R.rC ?_;rfl
def f117(t:Nat):Nat:=if t=78 then 20011 else if t=1073 then 20012 else t
def A7(t:Nat):Nat:=if t=20011 then 78 else if t=20012 then 1073 else t
def GO(g:Gr)(f:List W)(hold:Bool)(hO:RN g)(hn:g.n<=40)(hws:f.length<=400)(hw:∀y∈f,setB g.n y.pos=true/\setB g.n y.neg=true)(hV:bg aa 28 [.pd (pY g)] [B true])(hC:bJ aa 192 [] [] [.pd (pY g)] [] [] (J5 g)):
  bJ aa 117 [] [] [.pd (pY g),.pd (ways f),.pd (B hold)] [] [] (aqg g f hold):=by
 refine bJ.mk Tryz.func117 λw G rb=>?_;refine ac ?_;refine R.kW (hV) rfl rfl zd ?_;have hd:decide ((f.length:Int)>400)=false:=qz;apply aj;simp only [go_sem,↓reduceIte,bS,hd];refine R.Ef (d:=31) 1031 rfl rfl rfl rfl qn rfl rfl Zi A5 rfl rfl qk wv ?_;refine ac ?_;rw [show av g.n (PD.raw (.bool false))=(av g.n false).map B by rw [my]];refine R.fU (λ(p:Nat×List Bool) s=>St.lp [1,2,3,8,32,33] [(34,.pd (I p.1))] [3,8,78] [] [] [(1031,gI p.2)] s) (λ(p:Nat×List Bool)=>p.1<=f.length/\p.2.length=g.n) (λ(p:Nat×List Bool)=>f.length-p.1) ((0,av g.n false)) (⟨q6,qr⟩) ?_;rintro⟨i,Q⟩ ⟨hi,hnm⟩;simp only at hi hnm;refine ac ?_;refine⟨λh=>?_,λh=>?_⟩
 ·have hlt:i<f.length:=uu h
  obtain⟨hw1,hw2⟩:=hw f[i] (am hlt);refine qe hlt ?_;refine R.kC (KP g.n f[i].pos) rfl rfl ze ?_;apply ev8;simp only [go_sem,hw1,bS];refine R.zJ (rs:=[B (setB g.n f[i].neg)]) rfl rfl rfl rfl (λ_=>⟨by simp [qF,Op.operands,Call.operands,aO,St.get,lk,SV.unbox],zc zd,KP g.n f[i].neg⟩) ke qn ?_;apply ev8;simp only [go_sem,hw2,bS];refine ac ?_
  have hin:∀x∈[f[i].pos,f[i].neg].flatten,0<=x/\x.toNat<g.n:=by
   have key:∀l,setB g.n l=true->∀x∈l,0<=x/\x.toNat<g.n:=λl h x H=>by
    obtain⟨j,hj,rfl⟩:=bN H;have D:=aM.1 h j (cd.2 hj);simp only [qy,bj,cE]at D;have e1:l.getD j 0=l[j]:=j5;rw [e1]at D;omega
   simp only [fj,List.flatten_nil,el];intro x H;rcases cw.1 H with h|h
   ·exact key _ hw1 x h
   ·exact key _ hw2 x h
  refine R.kW (FZ [f[i].pos,f[i].neg] qr (by have:=F5 hw1;have:=F5 hw2;simp;omega)) rfl rfl zd ?_;generalize [f[i].pos,f[i].neg].flatten=cl at hin;refine ac ?_;refine R.bound 57 (sz:=1) (ds:=cl.map I) rfl λhl2=>?_;have hl2:cl.length<=9223372036854775807:=v4;refine R.fU (λ(q:Nat×List Bool) s=>St.lp [1,2,3,6,7,8,32,33,34,57,58] [(59,.pd (I q.1))] [3,8,10,78] [] [] [(1031,gI q.2)] s) (λ(q:Nat×List Bool)=>q.1<=cl.length/\q.2.length=g.n) (λ(q:Nat×List Bool)=>cl.length-q.1) ((0,Q)) (⟨q6,hnm⟩) ?_;rintro⟨j,X⟩ ⟨hj,pt⟩;simp only at hj pt;refine ac ?_;refine⟨λh=>?_,λh=>?_⟩
  ·have u:j<cl.length:=uu h
   obtain⟨hx0,hxn⟩:=hin cl[j] (am u);have hxm:cl[j].toNat<X.length:=qk;apply ev8;simp only [go_sem,getD_map,u,hxm,spB,msB,wrapN (k:=j) qk];repeat refine⟨qk,?_⟩
   refine R.fE (j+1,X.set cl[j].toNat true) ⟨q6,(cc ..).trans pt⟩
  ·have A:¬j<cl.length:=uu h
   apply ev8;simp only [go_sem,wrapN (k:=i) qk];refine R.fE (i+1,X) ⟨q6,pt⟩
 have A:¬i<f.length:=uu h;refine ac ?_;refine R.qU [1073,1076] [none,none,none,none,none,some 1073,none,none,some 1076] 60 mixed qv qv (λq hq=>by simp at hq;rcases hq with rfl|rfl<;>exact⟨rfl,rfl⟩) ?_;simp only [go_sem,jq,jl,SV.aY,dw,SV.hard,iq,an,a9,ck,eO,eZ];repeat refine⟨qk,?_⟩
 refine gU.make (n:=g.n) (k1:=.i64) (k2:=.i64) qr rfl rfl rfl rfl qn rfl rfl sl35 Wu rfl rfl qk kb ?_;refine gy 60 _ _ ?_;simp only [go_sem,jq,jl,SV.aY,dw,SV.hard,iq,St.chain,an,a9,ck];repeat refine⟨qk,?_⟩
 refine gU.make (n:=g.n) (k1:=.i64) (k2:=.i64) qr rfl rfl rfl rfl qn wx wx LP v3 rfl rfl qk kb ?_;refine gy 60 _ _ ?_;simp only [go_sem,jq,SV.aY,bn,St.chain,cY,dx];refine R.V6 (cs:=[.pd (I g.n),.pd (ints g.cost),.pd (lls g.edges),.pd (ways f),.pd (B hold),.pd (.raw (.slice none 0 0)),.own 1076,.own 1073,.pd (.raw (.slice none 0 0)),.pd (.raw (.slice none 0 0))]) rfl rfl rfl rfl rfl rfl qr rfl (λa w E gg=>?_) ?_
 ·have h8:∃cs:Array Value,a.tmps.getD 68 undef= .agg cs/\cs.size=3/\∀j,j<3->Rd w E.G (cs.getD j undef) ([I g.n,ints g.cost,lls g.edges].getD j (.ak [])):=gg.slots 68
  obtain⟨OG,e8,hs8,Ep⟩:=h8;have h69:Rd w E.G (a.tmps.getD 69 undef) (ways f):=gg.slots 69;have e70:a.tmps.getD 70 undef= .bool hold:=aH.aC (gg.slots 70);obtain⟨p0,n0,c0,e69⟩:=LS h69;obtain⟨p1,n1,c1,e1⟩:=yV (gg.slots 73) rfl;obtain⟨p2,n2,c2,e2⟩:=yV (gg.slots 76) rfl;have k1:=gg.slots 73;have k2:=gg.slots 76;rw [e1]at k1;rw [e2]at k2;rw [e69]at h69
  obtain⟨v0,v1,v2,rfl⟩:∃v0 v1 v2,OG= #[v0,v1,v2]:=by
   have:OG.toList.length=3:=uu hs8
   match hl:OG.toList,this with
   | [x,y,z],_=>exact⟨x,y,z,by rw [<-Array.toArray_toList (xs:=OG),hl]⟩
  refine⟨#[v0,v1,v2,.slice p0 n0 c0,.bool hold,.slice none 0 0,.slice p2 n2 c2,.slice p1 n1 c1,.slice none 0 0,.slice none 0 0],?_,rfl,λj hj=>?_⟩
  ·simp only [cA,ap,ax,Act.eval,e8,e1,e2,e69,e70]
   exact LR ..
  ·match j,hj with
   |0,_=>exact⟨(Ep 0 qu).oneCell,(Ep 0 qu).tV⟩
   |1,_=>exact⟨(Ep 1 qu).oneCell,(Ep 1 qu).tV⟩
   |2,_=>exact⟨(Ep 2 qu).oneCell,(Ep 2 qu).tV⟩
   |3,_=>exact⟨rfl,h69.tV⟩
   |4,_=>exact⟨rfl,.raw _ rfl⟩
   |5,_=>exact⟨rfl,.raw _ rfl⟩
   |6,_=>exact⟨rfl,k2⟩
   |7,_=>exact⟨rfl,k1⟩
   |8,_=>exact⟨rfl,.raw _ rfl⟩
   |9,_=>exact⟨rfl,.raw _ rfl⟩
 simp only [go_sem];refine ac ?_;refine R.IL 78 5 2105 3 1 rfl rfl qr rfl ?_;simp only [go_sem,pw,pH];refine R.mV 14 2114 3 1 qn rfl rfl ?_;simp only [go_sem];refine R.cX [] [] [] [] rfl rfl rfl (λvb hvb=>hC) rfl zp GJ ?_;rintro vb-dn res ys vars rows ⟨L,hL,rfl,rfl,rfl,rfl⟩;refine⟨rfl,rfl,trivial,?_⟩;refine ac ?_;refine R.bound 80 (sz:=1) (ds:=L.map ints) rfl λhlL=>?_;have hlL:L.length<=9223372036854775807:=by simpa [maxLen]using hlL
 refine R.fU (λ(p:Nat×List Int×List Int) s=>St.lp [3,6,7,8,13,80,81] [(82,.pd (I p.1)),(14,.own 2114)] [3,8,78] [] [1031,1073,1076] [(2105,cO p.2.1),(2114,cO p.2.2)] s) (λ(p:Nat×List Int×List Int)=>p.1<=L.length/\(p.2.1++p.2.2).Nodup/\∀x∈p.2.1++p.2.2,x∈(L.take p.1).flatten) (λ(p:Nat×List Int×List Int)=>L.length-p.1) ((0,[],[])) (⟨q6,qr,qr⟩) ?_;rintro⟨k,O,P⟩ ⟨hk,o,m⟩;simp only at hk o m;refine ac ?_;refine⟨λh=>?_,λh=>?_⟩
 ·have hlt:k<L.length:=uu h
  obtain⟨c,M⟩:∃c,L[k]=c:=⟨_,rfl⟩;have hcL:c∈L:=M▸am hlt;have hcr:∀x∈c,0<=x/\x.toNat<g.n:=λx H=>hL.rng x (gH.2 ⟨c,hcL,H⟩);refine z8 hlt M ?_;have hcl:=dW c (λv=>Q.getD v.toNat false);refine R.kC (hcl) rfl rfl (zc (.cons (Co.clo 193 [8] [bools Q] (decides I (λv=>Q.getD v.toNat false) c) (Cv.clo 193 [8] [bools Q] rfl (λ_=>[.own 1031]) (λi hi=>by obtain rfl:=ii.1 hi;exact⟨rfl,a3 _⟩) (λi j hi hj=>by obtain rfl:=ii.1 hi;obtain rfl:=ii.1 hj;exact Cv.own 1031 (gI Q) rfl)) GG (by rintro es r ⟨x,H,rfl,rfl⟩;have:=hcr x H;exact GM Q x this.1 qk)) (.nil))) ?_;have hfl:(L.take (k+1)).flatten=(L.take k).flatten++c:=by rw [bh hlt,eC,M];simp
  have U:∀x∈c,x∉O++P:=λx H hxo=>by
   have D:=m x hxo
   have N:L.flatten=(L.take k).flatten++(c++(L.drop (k+1)).flatten):=by
    conv=>lhs;rw [<-cK k L,eC,drop_cons hlt,fj,M]
   have h3:=hL.nd;rw [N]at h3;exact(dq.1 h3).2.2 x D x (eR _ H) rfl
  have hcn:c.Nodup:=by
   have N:L.flatten=(L.take k).flatten++(c++(L.drop (k+1)).flatten):=by
    conv=>lhs;rw [<-cK k L,eC,drop_cons hlt,fj,M]
   have h3:=hL.nd;rw [N]at h3;exact(dq.1 (dq.1 h3).2.1).1
  have J:(O++P).length<=g.n:=kY g.n _ o λx H=>hL.rng x (gH.2 (by obtain⟨l,D,N⟩:=gH.1 (m x H);exact⟨l,lv D,N⟩));have hcs:c.length<=g.n:=kY g.n _ hcn hcr;simp only [bd]at J
  cases hb:c.any λv=>Q.getD v.toNat false
  ·apply aj;simp only [go_sem,↓reduceIte,cH]
   apply ev8;simp only [go_sem,wrapN (k:=k) qk];refine R.fE (k+1,O,P) ⟨q6,o,λx H=>by simp only at H⊢;rw [hfl];exact eR _ (m x H)⟩
  by_cases D:c.length=1
  ·obtain⟨v,rfl⟩:∃v,c=[v]:=cz.1 D
   have d1:(((1:Nat):Int)==1)=true:=rfl;apply aj;simp only [go_sem,↓reduceIte,bS,d1];refine R.qU [2105] [none,none,none,none,some 2105,none,none,none,none,some 2105] 60 mixed qv qv (λq hq=>x8) ?_;simp only [go_sem,jq,dw,iq,an,a9,ck,eO,eZ];repeat refine⟨qk,?_⟩
   have hg0:[I v].getD (Int.toNat 0) (.ak [])=I v:=rfl;refine gU.sN qr rfl rfl rfl rfl qn rfl rfl qr rfl rfl Zf Zg ?_;refine gy 60 _ _ ?_;simp only [go_sem,jq,dw,SV.hard,iq,St.chain,an,a9,hg0];repeat refine⟨qk,?_⟩
   refine gU.append (r:=⟨3,1,O.map I⟩) (es:=[I v]) qr rfl rfl rfl qn rfl rfl rfl rfl sl35 rfl zq qr (congrArg (bB aR) Gz) rfl (zO _) (by show _*iQ aa 3<=_;rw [Gy];simp;omega) kb ?_;refine gy 60 _ _ ?_;simp only [go_sem,jq,SV.aY,bn,St.chain,cY,dx];repeat refine⟨qk,?_⟩
   apply ev8;simp only [go_sem,wrapN (k:=k) qk];have hap:O.map I++[I v]=(O++[v]).map I:=qr;have hpm:(O++[v]++P).Perm (O++P++[v]):=by rw [cD,cD];exact(List.perm_append_comm).append_left _
   refine R.fE (k+1,O++[v],P) ⟨q6,hpm.nodup_iff.2 (dq.2 ⟨o,hcn,λx H y hy e=>U y hy (e▸H)⟩),λx H=>by simp only at H⊢;rw [hfl];rcases cw.1 (hpm.mem_iff.1 H)with h|h;exact eR _ (m x h);exact g9 _ h⟩ (l:=by(simp only [go_sem,hap]);all_goals(and_intros<;>first|rfl))
  ·have d1:((c.length:Int)==1)=false:=qz
   apply aj;simp only [go_sem,↓reduceIte,bS,d1];refine R.append (r:=⟨3,1,P.map I⟩) (es:=c.map I) rfl rfl (ah qn) rfl rfl rfl rfl sl35 rfl zq qr (congrArg (bB aR) Gz) rfl (λi hi=>xt) (by show _*iQ aa 3<=_;rw [Gy];simp only [al];omega) w9 ?_;apply ev8;simp only [go_sem,wrapN (k:=k) qk];have hap:P.map I++c.map I=(P++c).map I:=bl.symm;refine R.fE (k+1,O,P++c) ⟨q6,by simp only;rw [<-cD];exact dq.2 ⟨o,hcn,λx H y hy e=>U y hy (e▸H)⟩,λx H=>by simp only at H⊢;rw [hfl];rw [<-cD]at H;rcases cw.1 H with h|h;exact eR _ (m x h);exact g9 _ h⟩ (l:=by(simp only [go_sem,hap]);all_goals(and_intros<;>first|rfl))
 have A:¬k<L.length:=uu h;have J:(O++P).length<=g.n:=kY g.n _ o λx H=>hL.rng x (gH.2 (by obtain⟨l,D,N⟩:=gH.1 (m x H);exact⟨l,lv D,N⟩));simp only [bd]at J;have A9:decide ((P.length:Int)>40)=false:=qz;refine zw A9 ?_;refine R.TY VI Zr (λ_=>rfl) P rfl rfl qn rfl rfl qk ?_;generalize hpt:(P.mergeSort λx y=>decide (x<=y))=ps;have K:ps.Perm P:=hpt▸List.mergeSort_perm ..;have hpl:ps.length=P.length:=K.length_eq;refine ac ?_;refine R.dI 2114 rfl rfl ?_;simp only [go_sem];refine R.append (r:=⟨3,1,O.map I⟩) (es:=ps.map I) rfl rfl (ah qn) rfl rfl rfl rfl sl35 rfl zq qr (congrArg (bB aR) Gz) rfl (λi hi=>xt) (by show _*iQ aa 3<=_;rw [Gy];simp only [al];omega) w9 ?_;rw [<-bl];generalize hod:O++ps=order;have hon:order.Nodup:=hod▸(K.append_left O).nodup_iff.2 o
 have hor:∀x∈order,0<=x/\x.toNat<g.n:=λx H=>hL.rng x (gH.2 (by
  obtain⟨l,D,N⟩:=gH.1 (m x ((K.append_left O).mem_iff.1 (hod▸H)));exact⟨l,lv D,N⟩))
 refine ac ?_;refine R.dI 2105 rfl rfl ?_;simp only [go_sem];clear m o K hpt hpl hod A A9 J;rcases gj g.n with h0|hpos
 ·have T:=hO.nil h0
  obtain⟨n,C,edges⟩:=g;simp only at h0 T;subst h0 T;refine R.fU (λ(i:Nat) s=>St.lp [6,7,13,126,127] [(128,.pd (I i))] [3,78] [] [1073,1076] [] s) (λ(i:Nat)=>i=0) (λ(i:Nat)=>i) (0) (rfl) ?_;rintro i rfl;refine ac ?_;refine⟨λh=>xy,λ_=>?_⟩;refine ac ?_;refine R.dI 1076 rfl rfl ?_;simp only [go_sem]
  have M:∀b,some [.pd (I ((⟨0,C,[]⟩:Gr)).n),.pd (ints ((⟨0,C,[]⟩:Gr)).cost),.pd (lls ((⟨0,C,[]⟩:Gr)).edges),.pd (ways f),.pd (B hold),.pd (ints order),.pd (.list 1 (av 0 (.raw (.slice none 0 0)))),.own 20012,.own 20013,.pd (GN b)]=some (dL ⟨(⟨0,C,[]⟩:Gr),f,hold,order,incs ((⟨0,C,[]⟩:Gr)),av ((⟨0,C,[]⟩:Gr)).n 0⟩ b):=λb=>by
   simp [incs]
  have hf:(some ⟨3,1,av ((⟨0,C,[]⟩:Gr)).n (I 0)⟩:Option Row)=some (cO (av ((⟨0,C,[]⟩:Gr)).n 0)):=jz;refine R.Ij f117 A7 rfl (MI rfl) ?_;simp only [go_sem,f117];refine R.IL 20011 8 20013 225 4 rfl rfl qr rfl ?_;simp only [go_sem,pw,pH];refine R.pin 20011 rfl (λb=>?_) rfl;refine R.lC (b:=b) rfl rfl (ah qn) rfl rfl ?_;refine ac ?_;refine R.lC (b:=b) rfl rfl (ah qn) rfl rfl ?_;refine ac ?_;refine R.lC (b:=b) rfl rfl (ah qn) rfl rfl ?_;refine ac ?_;refine R.lC (b:=b) rfl rfl (ah qn) rfl rfl ?_;refine ac ?_;exact R.rVp 20011 b [(20011,dL ⟨(⟨0,C,[]⟩:Gr),f,hold,order,incs ((⟨0,C,[]⟩:Gr)),av ((⟨0,C,[]⟩:Gr)).n 0⟩ b)] [(20012,cO (av ((⟨0,C,[]⟩:Gr)).n 0)),(20013,tu [])] [.aA 20011 0,.pd (I 0)] (by(simp only [resV,ly,go_sem,rT];all_goals rfl)) (λvb _ hb=>⟨order,hon,hor,rfl,rfl,by rw [hb],rfl⟩) ⟨M b,trivial⟩ ⟨hf,rfl,trivial⟩
 refine R.nest 1076 29076 100000 3 (r:=⟨35,1,av g.n (.raw (.slice none 0 0))⟩) rfl qz rfl (λj hj=>by simp only [fh]at hj;simp [hj]) rfl rfl qu (λi hi=>⟨by simp only [St.row,lk];(repeat rw [ae qk]),rfl⟩) qu ?_;simp only [go_sem,St.nest,SV.nest,er,fh];refine R.og (λ(i:Nat) s=>{St.lp [6,7,13,126,127] [(128,.pd (I i))] [29076,3,78] [] [] [] s with rows:=(1073,⟨3,1,av g.n (I 0)⟩)::tl 100000 g.n 3 λv=>(qB g.edges i v).map I}) (λ(i:Nat)=>i<=g.edges.length) (λ(i:Nat)=>g.edges.length-i) (0) qk q7 ?_;intro i hi;refine ac ?_;refine⟨λh=>?_,λh=>?_⟩
 ·have hlt:i<g.edges.length:=uu h
  obtain⟨_,o,hlE,FX⟩:=hO.e i hlt;have e1:g.edges[i]=g.edges.getD i []:=yo;generalize hl:g.edges.getD i []=l at*
  refine z8 hlt e1 ?_;rw [show(λv=>(qB g.edges i v).map I)=λv=>(gZ g.edges i 0 v).map I from funext λv=>by rw [RH]];refine R.og (λ(j:Nat) s=>{St.lp [6,7,13,17,126,127,128,133,134] [(135,.pd (I j))] [29076,3,78] [] [] [] s with rows:=(1073,⟨3,1,av g.n (I 0)⟩)::tl 100000 g.n 3 λv=>(gZ g.edges i j v).map I}) (λ(j:Nat)=>j<=l.length) (λ(j:Nat)=>l.length-j) (0) qk q7 ?_;intro j hj;refine ac ?_;refine⟨λh=>?_,λh=>?_⟩
  ·have u:j<l.length:=uu h
   refine qe u ?_;obtain⟨hx0,hxn⟩:=FX l[j] (am u)
   have hst:∀v,uO (λv=>(gZ g.edges i j v).map I) l[j].toNat ((gZ g.edges i j l[j].toNat).map I++[I i]) v=(gZ g.edges i (j+1) v).map I:=by
    subst hl;exact RJ u o hx0
   generalize l[j]=x at*
   refine R.qU [100000+x.toNat] [none,none,none,none,none,none,none,none,none,none,none,some (100000+x.toNat),none,none,some (100000+x.toNat)] 60 mixed (show ug _ 15=true by decide+kernel) (Vw (100000+x.toNat) [false,false,false,false,false,false,false,false,false,false,false,true,false,false,true] qv) (λq hq=>x8) ?_;simp only [go_sem,jq,jl,SV.aY,dw,SV.hard,iq,an,a9,ck,eO,eZ,cY,dx];repeat refine⟨qk,?_⟩
   have Z:(1073=100000+x.toNat)=False:=qz;have m11:(1073==100000+x.toNat)=false:=qz;have hself:uO (λv=>(gZ g.edges i j v).map I) x.toNat ((gZ g.edges i j x.toNat).map I)=λv=>(gZ g.edges i j v).map I:=Rw _ _;refine gU.sN (r:=⟨3,1,(gZ g.edges i j x.toNat).map I⟩) qr rfl rfl rfl rfl qn rfl rfl (by rw [xZ];exact hxn) (MH hxn) ko Zf Zg ?_;refine gy 60 _ _ ?_;simp only [go_sem,jq,dw,iq,St.chain,Z,Ov hxn,hself];have htl:tl 100000 g.n 3 (uO (λv=>(gZ g.edges i j v).map I) x.toNat ((gZ g.edges i j x.toNat).map I++[I i]))=tl 100000 g.n 3 λv=>(gZ g.edges i (j+1) v).map I:=MG λv _=>hst v;have hil:=Wv g.edges i j x.toNat;have hE:=hO.m;refine gU.append (r:=⟨3,1,(gZ g.edges i j x.toNat).map I⟩) (es:=[I i]) qr rfl rfl rfl qn rfl ko rfl rfl sl35 rfl zq qr (congrArg (bB aR) Gz) rfl (zO _) kq kj ?_;refine gy 60 _ _ ?_;simp only [go_sem,jq,SV.aY,bn,St.chain,cY,dx,Z,m11,Ov hxn,htl,Iw,Ox];apply ev8;simp only [go_sem,Z,iP hxn,V7 hxn (.inr rfl),xZ,al,wrapN (k:=j) qk];repeat refine⟨qk,?_⟩
   refine R.fE (j+1) qk (l:=q7)
  have A:j=l.length:=by have:¬j<l.length:=by simpa using h
                        omega
  subst A;subst hl;rw [show(λv=>(gZ g.edges i (g.edges.getD i []).length v).map I)=λv=>(qB g.edges (i+1) v).map I from funext λv=>by rw [RI]];have hE:=hO.m;apply ev8;simp only [go_sem,wrapN (k:=i) qk];refine R.fE (i+1) qk (l:=q7)
 have A:i=g.edges.length:=by have:¬i<g.edges.length:=by simpa using h
                             omega
 subst A;refine ac ?_;refine R.gJ 100000 [(1073,⟨3,1,av g.n (I 0)⟩)] rfl qr (λi hi=>⟨rfl,rfl⟩) ?_;simp only [go_sem,St.gJ,SV.gJ,Rx];refine R.fA 29076 (.ak (yD g.n λv=>(qB g.edges g.edges.length v).map I)) rfl (λr h=>by rcases h with⟨t,h⟩|⟨i,p,h,_⟩<;>cases h) rfl ?_;simp only [go_sem,St.fA,SV.fA,er,PD.width,PD.cells,Ru]
 have M:∀b,some [.pd (I (g).n),.pd (ints (g).cost),.pd (lls (g).edges),.pd (ways f),.pd (B hold),.pd (ints order),.pd (.list 1 (yD g.n λv=>(qB g.edges g.edges.length v).map I)),.own 20012,.own 20013,.pd (GN b)]=some (dL ⟨g,f,hold,order,incs (g),av (g).n 0⟩ b):=λb=>by
  simp [incs,yD,cr,Function.comp_def]
 have hf:(some ⟨3,1,av (g).n (I 0)⟩:Option Row)=some (cO (av (g).n 0)):=jz;refine R.Ij f117 A7 rfl (MI rfl) ?_;simp only [go_sem,f117];refine R.IL 20011 8 20013 225 4 rfl rfl qr rfl ?_;simp only [go_sem,pw,pH];refine R.pin 20011 rfl (λb=>?_) rfl;refine R.lC (b:=b) rfl rfl (ah qn) rfl rfl ?_;refine ac ?_;refine R.lC (b:=b) rfl rfl (ah qn) rfl rfl ?_;refine ac ?_;refine R.lC (b:=b) rfl rfl (ah qn) rfl rfl ?_;refine ac ?_;refine R.lC (b:=b) rfl rfl (ah qn) rfl rfl ?_;refine ac ?_;exact R.rVp 20011 b [(20011,dL ⟨g,f,hold,order,incs (g),av (g).n 0⟩ b)] [(20012,cO (av (g).n 0)),(20013,tu [])] [.aA 20011 0,.pd (I 0)] (by(simp only [resV,ly,go_sem,rT];all_goals rfl)) (λvb _ hb=>⟨order,hon,hor,rfl,rfl,by rw [hb],rfl⟩) ⟨M b,trivial⟩ ⟨hf,rfl,trivial⟩
def GP:aF aa 199:=λ_ _=>qq
def aqh{s:St}(h:(s.slots.all λp=>match p.2 with| .box _=>false|_=>true)=true)(t:Nat)(cs:List Value):s.get t≠.box cs:=by
 intro e;unfold St.get at e
 have:∀l:List (Nat×SV),(l.all λp=>match p.2 with| .box _=>false|_=>true)=true->(lk t l).getD .dead≠.box cs:=by
  intro l
  induction l with
  |nil=>intro _ h;cases h
  |cons p l i=>
   intro a H;simp only [List.all_cons,bj]at a;simp only [lk]at H
   split at H
   ·simp only [Option.getD_some]at H
    rw [H]at a;cases a.1
   ·exact i a.2 H
 exact this _ h e
def f45(t:Nat):Nat:=if t=1 then 20014 else if t=2 then 20015 else t
def g45(t:Nat):Nat:=if t=20014 then 1 else if t=20015 then 2 else t
def tr(z:Se)(b:Nat)(t:List PD):QV:=λ_ r x v rows=>∃a s,x=[]/\v=[(20011,dL z b)]/\rows=lS {z with state:=s} a/\t.length<=a.length/\a.length+1<=t.length+2 ^ (z.order.length+1)/\zi a/\
 ((r= .ret/\s=z.state)\/(r= .nJ FOUND/\s.length=z.state.length/\Ind {z with state:=s}))
def N5(z:Se)(b:Nat)(t:List PD)(j:Inv z 0 (-1) t):bJ aa 199 [(20011,b)] [20012] [.aA 20011 0] [(20011,dL z b)] (lS z t) (tr z b t):=by
 refine bJ.mk Tryz.func199 λw G m=>?_;refine ac ?_;refine R.Ij f45 g45 rfl (aqh rfl) ?_;simp only [go_sem,f45];refine R.cX [(20011,dL z b),(20014,[.aA 20011 0]),(20015,[.clo 310 [20014,20015]])] [(20012,cO z.state),(20013,tu t)] [] [20012] rfl rfl rfl (λv f=>Sy _ z 0 (-1) b (v 20011) (v 20014) (v 20015) t (f 20011 b rfl) rfl j) rfl zv OE ?_;rintro v-D r l i rows ⟨st2,s,rfl,rfl,rfl,e,h,k,d⟩;rcases d with⟨rfl,rfl⟩|⟨rfl,H,o⟩
 ·refine⟨rfl,rfl,⟨⟨_,_,rfl,rfl,rfl,rfl⟩,trivial⟩,?_⟩
  refine ac ?_;refine R.oX [(20011,dL z b)] [(20012,cO z.state),(20013,tu st2)] [] ?_;intro _ _;exact⟨st2,z.state,rfl,rfl,rfl,e,h,k,.inl ⟨rfl,rfl⟩⟩
 ·refine⟨rfl,⟨⟨_,_,rfl,rfl,uu H,rfl⟩,trivial⟩,λa w E g=>TL [(20011,dL z b)] (lS {z with state:=s} st2) (λ_ _=>?_) (Has.lk ⟨rfl,trivial⟩) (Has.lk ⟨rfl,rfl,trivial⟩) rfl g⟩
  exact⟨st2,s,rfl,rfl,rfl,e,h,k,.inr ⟨rfl,H,o⟩⟩
end Go.Proofs.Z
