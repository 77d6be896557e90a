/- A part of the proof. -/
import Derived.Test.YtgeljjfmcmbejaaGreatDoorPTx
import Derived.Test.YtgeljjfmcmbejaaGreatDoorPCp
import Derived.Test.YtgeljjfmcmbejaaGreatDoorPOn
set_option linter.all false
set_option linter.deprecated false
open Array renaming getD→bc,getElem_toList→ic,length_toList→cb
open Go renaming Calls→ey,wpList_plain→bA,run_underlying→bq
open Go.Builtin renaming append_→da,lenOf→fu,firstCells→gN,zeroCells→fe
open Go.Lib renaming countByte→fi,byteCells→cN,byteCells_length→Bt
open Go.Lib.BuilderAt renaming lt→mR
open Go.Oper renaming wp→b5,upon_enter→fy,upon_value→ci
open Go.Proofs.Tryz renaming prog→aa
open Go.World renaming cell?_of_block→gb,cell?→cP,frozen?→lr,setCell→gp
open List renaming length_cons→an,sum_append→rS,replicate→av,length→aR,length_nil→a9
open Nat renaming reduceOr→d5,reducePow→dy
set_option maxRecDepth 100000
set_option maxHeartbeats 4000000
namespace Go.Proofs.Z
open Go.au
variable {l:List UInt8}{N:Nat}
def R2:aF aa 477:=λ_ _=>qq
def spec(c:UInt8):Bool:=c==10||c==34||c==92
def Uf(c:UInt8):c.toNat<256:=c.toNat_lt
def Ir(c:UInt8):jF.getD c.toNat (.ak [])=if spec c then .list 1 ((iZ c).map λx=>U8 x)else NIL:=by
 rw [Qk (Uf c)];have d:c.toNat=10↔c=10:=by rw [<-UInt8.toNat_inj];rfl
 have H:c.toNat=34↔c=34:=by rw [<-UInt8.toNat_inj];rfl
 have h:c.toNat=92↔c=92:=by rw [<-UInt8.toNat_inj];rfl
 unfold L9 spec iZ;simp only [d,H,h]
 by_cases b:c=10
 ·subst b;rfl
 ·by_cases a:c=34
  ·subst a;rfl
  ·by_cases C:c=92
   ·subst C;rfl
   ·simp [b,a,C]
def zM{c:UInt8}(h:spec c=true):∃x,iZ c=[92,x]:=by
 unfold spec at h;unfold iZ
 split
 ·exact⟨_,rfl⟩
 ·split
  ·exact⟨_,rfl⟩
  ·split
   ·exact⟨_,rfl⟩
   ·rename_i b a H;simp [b,a,H]at h
def Md{c:UInt8}(h:spec c=false):iZ c=[c]:=by
 unfold spec at h;unfold iZ;simp only [lw,eh]at h;simp [h.1.1,h.1.2,h.2]
def El(c:UInt8):(iZ c).length=1+(if spec c then 1 else 0):=by
 cases h:spec c with
 |true=>obtain⟨x,H⟩:=zM h;rw [H];rfl
 |false=>rw [Md h];rfl
def Er(l:List UInt8):(bf l).length=l.length+l.countP spec:=by
 induction l with
 |nil=>rfl
 |cons c l i=>
  have:bf (c::l)=iZ c++bf l:=rfl;rw [this,bd,i,El,gP,an];omega
def ZX(l:List UInt8)(c:UInt8):bf (l++[c])=bf l++iZ c:=by simp [bf]
def ZY(h:l.countP spec=0):bf l=l:=by
 induction l with
 |nil=>rfl
 |cons c l i=>
  rw [gP]at h;have a:spec c=false:=by cases H:spec c with|false=>rfl|true=>rw [H]at h;simp at h
  have:bf (c::l)=iZ c++bf l:=rfl;rw [this,Md a,i qk];rfl
def Oi(l:List UInt8):l.countP spec=(l7.map (fi l)).sum:=by
 induction l with
 |nil=>rfl
 |cons c l i=>
  simp only [l7,ap,ax,List.sum_cons,List.sum_nil,fi,List.count_cons,gP]at i⊢
  have:(if spec c then 1 else 0)=(if c==10 then 1 else 0)+((if c==92 then 1 else 0)+(if c==34 then 1 else 0)):=by
   unfold spec
   by_cases b:c=10
   ·subst b;rfl
   ·by_cases a:c=34
    ·subst a;rfl
    ·by_cases C:c=92
     ·subst C;rfl
     ·simp [b,a,C]
  omega
def Ix(s:ByteArray)(c:UInt8):bg aa 477 [.pd (S s),.pd (S (str [c]))] [I (fi (bytes s) c:Nat)]:=by
 refine⟨R2,λw G vals j a v=>?_⟩;have f:vals.getD 0 undef= .string s:=aH.aC (w:=w) (G:=G) (v 0 qr);have E:vals.getD 1 undef= .string (str [c]):=aH.aC (w:=w) (G:=G) (v 1 qr)
 have b:vals= #[.string s,.string ⟨#[c]⟩]:=by
  apply d6
  ·simpa using a
  ·intro i H d
   have h:vals.size=2:=uu a
   match i,H with
   |0,_=>simpa [bc,h]using f
   |1,_=>simpa [bc,h]using E
 rw [b];refine(Tryz.strings_Count_one s c w).mono ?_;rintro e g ⟨rfl,rfl⟩;exact⟨_,rfl,Rd.raw _ rfl,Go.RowKit.Below.refl _ _⟩
def GK(s:ByteArray)(k:Nat):Nat:=((l7.take k).map (fi (bytes s))).sum
def I0(s:ByteArray)(k:Nat)(h:k<l7.length):GK s (k+1)=GK s k+fi (bytes s) l7[k]:=by
 unfold GK;rw [bh h,bl,rS];simp
def Ev(s:ByteArray)(k:Nat)(h:l7.length<=k):GK s k=(bytes s).countP spec:=by
 unfold GK;rw [bi h,<-Oi]
def R3(s:ByteArray)(k:Nat):GK s k<=(bytes s).countP spec:=by
 rw [Oi]
 conv=>rhs;rw [<-cK k l7,bl,rS]
 unfold GK;omega
def VK(k:Nat)(h:k<l7.length):spec l7[k]=true:=by
 match k,h with
 |0,_=>rfl
 |1,_=>rfl
 |2,_=>rfl
abbrev u8s(l:List UInt8):List PD:=l.map λc=>U8 c
def fill(N:Nat)(l:List UInt8):List PD:=u8s l++av (N-l.length) (U8 0)
def VL(h:l.length<=N):(fill N l).length=N:=by simp [fill];omega
def I1{m:List UInt8}(h:l.length+m.length<=N):(fill N l).take l.length++u8s m++(fill N l).drop (l.length+m.length)=fill N (l++m):=by
 unfold fill;have H:(u8s l).length=l.length:=qr;rw [Bn qk,bi qk,List.drop_append,H];simp only [bl,bd,cD];have E:l.length+m.length-l.length=m.length:=qk;rw [List.drop_of_length_le qk,List.nil_append,E,List.drop_replicate];have e:N-l.length-m.length=N-(l.length+m.length):=qk;rw [e]
def I2(c:UInt8)(h:l.length<N):(fill N l).set l.length (spl ((fill N l).getD l.length (.ak [])) 0 (.raw (.int .u8 (c.toNat:Int))))=fill N (l++[c]):=by
 have a:(fill N l).getD l.length (.ak [])=U8 0:=by
  have H:0<N-l.length:=qk;simp [fill,ag,H]
 rw [a];have E:spl (U8 0) 0 (.raw (.int .u8 (c.toNat:Int)))=U8 c:=rfl;rw [E];unfold fill;have e:N-l.length=(N-(l++[c]).length)+1:=qz;rw [e,List.replicate_succ,rf _ _ qr];simp
def _root_.Go.au.R.cut{C:Cx}{k:List KI}{s:St}{X:Code}(J:St->Prop)(d:R C (.code X :: .aU J::k) s)(b:∀s',J s'->R C k s'):R C (.code X::k) s:=by
 intro a w E g;have:=d a w E g;simp only [fin]at this⊢;refine wp_mono this ?_;intro e a w h
 cases e with
 |normal=>obtain⟨s',f,H,G⟩:=h;exact b s' H a w f G
 |exit _=>exact h
 |goto _=>exact h
 |ret=>exact h
 |panic _=>exact h
 |outgrown=>exact h
def _root_.Go.au.R.asU{C:Cx}{k:List KI}{a s:St}{d X:Code}{b c:Prop}(S:St)(g:b->R C (.code d :: .aU (Fam (λ_:Bool=>S) (λ_=>True) (λb=>if b then 0 else 1) false)::k) a)(f:c->R C (.code X :: .aU (Fam (λ_:Bool=>S) (λ_=>True) (λb=>if b then 0 else 1) false)::k) s)
  (H:R C k S):(b->R C (.code d::k) a)/\(c->R C (.code X::k) s):=
 ⟨λh=>R.cut _ (g h) (by rintro e ⟨_,_,_,rfl⟩;exact H),λh=>R.cut _ (f h) (by rintro e ⟨_,_,_,rfl⟩;exact H)⟩
abbrev rE(s:ByteArray):Nat:=(bytes s).countP spec
def Ug(s:ByteArray):St:=⟨122,[(0,.ref (.ak jF) 0),(1,.pd (S s)),(4,.pd (.raw (.string ⟨#[]⟩))),(5,.pd (I ((s.size+rE s:Nat):Int))),(6,.pd (B (decide (0<rE s))))],[],[],[],[]⟩
def pb{n:Nat}(h:n<9223372036854775807):IntKind.i64.wrap (n:Int)=(n:Int):=by
 unfold IntKind.wrap;simp [IntKind.signed,IntKind.bits];omega
def Z4(q:ByteArray)(hs:q.size<=1000000000):bg aa 475 [.ref (.ak jF) 0,.pd (S q)] [S (str (bf (bytes q)))]:=by
 have v:(bytes q).length=q.size:=by cases q;rfl
 have P:rE q<=q.size:=by rw [<-v];exact iv
 have amI:List.countP spec (bytes q)<=q.size:=P;refine bg.mk Tryz.func475 λw G=>?_;apply aI;simp only [go_sem,FK,kH];refine R.asU (Ug q) (λh=>?_) (λh=>?_) ?_
 ·apply aI;simp only [go_sem,FK,kH]
  refine R.fU (λ(k:Nat) s=>St.lp [0,1,4,10,11,12,13,14,15,30,31,55,56,57,58,59,60,61,62,63,64,65,66,67,68,69,70,71,72,73,74,75,76,77,78,79,80,81,82,83,84,85,86,87,88,89,90,91,92,93,94,95,96,97,98,99,100,101,102,103,104,105,106,107,108,109,110,111,112,113,114,115,116,117,118,119,120,121] [(32,.pd (I k)),(5,.pd (I ((q.size+GK q k:Nat):Int))),(6,.pd (B (decide (0<GK q k))))] [] [] [] [] s) (λ(k:Nat)=>k<=l7.length) (λ(k:Nat)=>l7.length-k) (0) qk ?_;rintro k hk;refine ai ?_;refine⟨λh=>?_,λh=>?_⟩
  ·have t:k<l7.length:=uu h
   have hck:=R3 q (k+1);have u:=I0 q k t;refine z7 t ?_;refine R.kW (Ix q l7[k]) rfl rfl ze ?_;refine ai ?_;refine⟨λf=>?_,λf=>?_⟩
   ·obtain⟨x,g⟩:=zM (VK k t)
    have H:jF.getD (l7[k]).toNat (.ak [])= .list 1 [U8 92,U8 x]:=by rw [Ir,af (VK k t),g];rfl
    have z:0<fi (bytes q) l7[k]:=by
     rcases gj (fi (bytes q) l7[k])with e|e
     ·rw [e]at f;simp at f
     ·exact e
    refine ai ?_;refine R.dA 13 80 mixed qv ?_;simp only [go_sem,uw,uD,H,kH,eB,Int.toNat_zero];have C:=Uf l7[k];refine⟨⟨qk,by first|decide|(rw [Mc];decide)⟩,qk,qk,?_⟩
    have n:IntKind.i64.wrap (((q.size+GK q k:Nat):Int)+IntKind.i64.wrap ((fi (bytes q) l7[k]:Nat)*IntKind.i64.wrap (((2:Nat):Int)-1)))=((q.size+GK q (k+1):Nat):Int):=by
     have X:IntKind.i64.wrap (((2:Nat):Int)-1)=((1:Nat):Int):=qu;rw [X,<-Int.natCast_mul,cQ,pb qk,<-Int.natCast_add,pb qk,u,et]
    have U:decide (0<GK q (k+1))=true:=qz;apply aI;simp only [go_sem,n,wrapN (k:=k) (by simp [l7]at t;omega)];refine R.fE (k+1) qk (l:=by(simp only [go_sem,U]);all_goals(and_intros<;>first|rfl))
   ·have hz:fi (bytes q) l7[k]=0:=by
     rcases gj (fi (bytes q) l7[k])with e|e
     ·exact e
     ·exfalso;simp at f;omega
    rw [hz,Nat.add_zero]at u;apply aI;simp only [go_sem,wrapN (k:=k) (by simp [l7]at t;omega)];refine R.fE (k+1) qk (l:=by(simp only [go_sem,u]);all_goals(and_intros<;>first|rfl))
  ·have J:=Ev q k j4
   refine ai ?_;refine R.fE true trivial (hm:=qu) (l:=by(simp only [go_sem,J,Ug]);all_goals(and_intros<;>first|rfl))
 ·refine ai ?_
  refine R.fU (λ(k:Nat) s=>St.lp [0,1,4,12,13,14,15,81,82,83,84,85,86,87,88,89,90,91,92,93,94,95,96,97,98,99,100,101,102,103,104,105,106,107,108,109,110,111,112,113,114,115,116,117,118,119,120,121] [(10,.pd (I k)),(5,.pd (I ((q.size+((bytes q).take k).countP spec:Nat):Int))),(6,.pd (B (decide (0<((bytes q).take k).countP spec))))] [] [] [] [] s) (λ(k:Nat)=>k<=q.size) (λ(k:Nat)=>q.size-k) (0) qk ?_;rintro k hk;refine ai ?_;refine⟨λh=>?_,λh=>?_⟩
  ·have t:k<q.size:=uu h
   have Q:k<(bytes q).length:=qk
   have a:q.data.toList.getD k 0=(bytes q)[k]:=by
    have:k<q.data.size:=Q;simp only [ag,bytes,ff,m7 this,Option.getD_some,ic]
   have b:(bytes q).take (k+1)=(bytes q).take k++[(bytes q)[k]]:=bh Q;generalize(bytes q)[k]=c at a b;have C:=Uf c
   cases p:spec c with
   |true=>
    obtain⟨x,g⟩:=zM p;have H:jF.getD c.toNat (.ak [])= .list 1 [U8 92,U8 x]:=by rw [Ir,p,af rfl,g];rfl
    apply aI;simp only [go_sem,uw,uD,a,H,kH];refine⟨qk,qk,qk,?_⟩;refine R.tP rfl rfl (ah qn) rfl rfl kT ?_;have hsn:((bytes q).take (k+1)).countP spec=((bytes q).take k).countP spec+1:=by rw [b,kB];simp [p]
    have hle:((bytes q).take (k+1)).countP spec<=q.size:=by
     rw [<-v];exact bz iv qz
    have n:IntKind.i64.wrap (((q.size+((bytes q).take k).countP spec:Nat):Int)+IntKind.i64.wrap (((2:Nat):Int)-1))=((q.size+((bytes q).take (k+1)).countP spec:Nat):Int):=by
     have X:IntKind.i64.wrap (((2:Nat):Int)-1)=((1:Nat):Int):=qu;rw [X,<-Int.natCast_add,pb qk,hsn,et]
    have U:decide (0<((bytes q).take (k+1)).countP spec)=true:=bL qk;refine ai ?_;apply aI;simp only [go_sem,uw,uD,H,kH,n,wrapN (k:=k) qk];refine⟨qk,qk,?_⟩;refine R.fE (k+1) qk (l:=by(simp only [go_sem,U]);all_goals(and_intros<;>first|rfl))
   |false=>
    have H:jF.getD c.toNat (.ak [])=Dt:=by rw [Ir,p];rfl
    apply aI;simp only [go_sem,uw,uD,a,H,kH];refine⟨qk,qk,qk,?_⟩;refine R.tQ rfl rfl (ah qn) rfl rfl kT ?_;have hsn:((bytes q).take (k+1)).countP spec=((bytes q).take k).countP spec:=by rw [b,kB];simp [p]
    refine ai ?_;apply aI;simp only [go_sem,wrapN (k:=k) qk];refine R.fE (k+1) qk (l:=xj)
  ·have o:(bytes q).take k=bytes q:=bi j4
   refine ai ?_;refine R.fE true trivial (hm:=qu) (l:=by(simp only [go_sem,o,Ug]);all_goals(and_intros<;>first|rfl))
 ·unfold Ug
  refine ai ?_;refine⟨λh=>?_,λh=>?_⟩
  ·have f:(bytes q).countP spec=0:=by simp at h;simpa using h
   refine ai ?_;refine R.rW ?_;rw [ZY f];rfl
  ·have z:0<rE q:=uu h
   refine ai ?_;have K:(aa.info? 5).map (λi=>(i.zero,i.size,i.bytes))=some (some (.int .u8 0),1,1):=qq;have T:q.size+rE q=(bf (bytes q)).length:=by rw [Er,v]
   refine R.Ef (d:=85) 12 rfl rfl rfl rfl qn rfl rfl kT K rfl rfl qk wv ?_;refine ai ?_;have O:av (q.size+rE q) (PD.raw (.int .u8 0))=fill (q.size+rE q) (bf ((bytes q).take 0)):=by simp [fill,bf]
   rw [O];refine R.fU (λ(k:Nat) s=>St.lp [0,1,4,12,120,121] [(14,.pd (I k)),(13,.pd (I ((bf ((bytes q).take k)).length:Int))),(12,.own 12)] [] [] [] [(12,⟨5,1,fill (q.size+rE q) (bf ((bytes q).take k))⟩)] s) (λ(k:Nat)=>k<=q.size) (λ(k:Nat)=>q.size-k) (0) qk ?_;rintro k hk;refine ai ?_;refine⟨λh=>?_,λh=>?_⟩
   ·have t:k<q.size:=uu h
    have Q:k<(bytes q).length:=qk
    have a:q.data.toList.getD k 0=(bytes q)[k]:=by
     have:k<q.data.size:=Q;simp only [ag,bytes,ff,m7 this,Option.getD_some,ic]
    have b:(bytes q).take (k+1)=(bytes q).take k++[(bytes q)[k]]:=bh Q;have M:bf ((bytes q).take (k+1))=bf ((bytes q).take k)++iZ (bytes q)[k]:=by rw [b,ZX]
    have htot:(bf ((bytes q).take (k+1))).length<=q.size+rE q:=by
     rw [T]
     conv=>rhs;rw [<-cK (k+1) (bytes q)]
     simp only [bf,gR,bd];omega
    generalize(bytes q)[k]=c at a b M;have C:=Uf c
    cases p:spec c with
    |true=>
     obtain⟨x,g⟩:=zM p;have H:jF.getD c.toNat (.ak [])= .list 1 [U8 92,U8 x]:=by rw [Ir,p,af rfl,g];rfl
     apply aI;simp only [go_sem,uw,uD,a,H,kH];refine⟨qk,qk,qk,?_⟩;refine R.tP rfl rfl (ah qn) rfl rfl kT ?_;have D:(bf ((bytes q).take (k+1))).length=(bf ((bytes q).take k)).length+2:=by rw [M,g];simp
     rw [g]at M;have r:=I1 (N:=q.size+rE q) (l:=bf ((bytes q).take k)) (m:=[92,x]) (by show _+2<=_;omega);have r:(fill (q.size+rE q) (bf ((bytes q).take k))).take (bf ((bytes q).take k)).length++[U8 92,U8 x]++(fill (q.size+rE q) (bf ((bytes q).take k))).drop ((bf ((bytes q).take k)).length+2)=fill (q.size+rE q) (bf ((bytes q).take k)++[92,x]):=r;refine ai ?_;refine R.asR (c:=c) (y1:=92) (y2:=x) (j:=(bf ((bytes q).take k)).length) (ds:=fill (q.size+rE q) (bf ((bytes q).take k))) rfl rfl qq qq qq rfl rfl rfl rfl rfl rfl H (by rw [VL qk];omega) ?_;rw [r];simp only [go_sem,yQ,List.foldl_cons,List.foldl_nil];apply aI;simp only [go_sem,wrapN (k:=k) qk];refine R.fE (k+1) qk (l:=by(simp only [go_sem,M,bd]);all_goals(and_intros<;>first|rfl))
    |false=>
     have H:jF.getD c.toNat (.ak [])=Dt:=by rw [Ir,p];rfl
     apply aI;simp only [go_sem,uw,uD,a,H,kH];refine⟨qk,qk,qk,?_⟩;refine R.tQ rfl rfl (ah qn) rfl rfl kT ?_;have A:iZ c=[c]:=Md p;rw [A]at M;have E:(bf ((bytes q).take (k+1))).length=(bf ((bytes q).take k)).length+1:=by rw [M];simp
     refine ai ?_;apply aI;simp only [go_sem,VL (show(bf ((bytes q).take k)).length<=q.size+rE q by omega)];have L:=I2 (N:=q.size+rE q) (l:=bf ((bytes q).take k)) c qk;refine⟨qk,qk,?_⟩;refine R.fE (k+1) qk (l:=by(simp only [go_sem,L,M,bd,wrapN (k:=k) qk,wrapN (k:=(bf ((bytes q).take k)).length) qk]);all_goals(and_intros<;>first|rfl))
   ·have o:(bytes q).take k=bytes q:=bi j4
    have Z:fill (q.size+rE q) (bf (bytes q))=(bf (bytes q)).map λc=>.raw (.int .u8 (c.toNat:Int)):=by unfold fill;rw [T];simp
    rw [o];refine ai ?_;refine R.toStr (bs:=bf (bytes q)) rfl rfl (ah qn) rfl rfl rfl Z kT QW QX (λe=>by have f:=congrArg aR e;rw [<-T]at f;simp only [a9]at f;omega) ?_;refine ai ?_;refine R.rW ?_;rfl
end Go.Proofs.Z
namespace Go.au
variable {b t:Nat}{xs:Array Operand}{T:Array TypeId}
structure Aside(b:Nat)(w w':World):Prop where
 os:w'.os=w.os
 tape:w'.tape=w.tape
 output:w'.output=w.output
 size:w.heap.size<=w'.heap.size
 block:∀k,k<w.heap.size->k≠b->w'.heap[k]? =w.heap[k]?
def Aside.of_below{w w':World}(h:Go.RowKit.Below w.heap.size w w'):Aside b w w':=⟨h.os,h.tape,h.output,h.size,λk H _=>h.block k H⟩
def Aside.trans{w d a:World}(h:Aside b w d)(k:Aside b d a):Aside b w a:=⟨k.os.trans h.os,k.tape.trans h.tape,k.output.trans h.output,bz h.size k.size,λj H e=>(k.block j (cj H h.size) e).trans (h.block j H e)⟩
def MB{α:Type}(k:Nat):List (Nat×α)->List (Nat×α)
 | []=>[]
 |(j,x)::l=>if j=k then MB k l else(j,x)::MB k l
def Qm{α:Type}(k j:Nat):∀(l:List (Nat×α)),lk j (MB k l)=if j=k then none else lk j l
 | []=>by simp [MB,lk]
 |(i,x)::l=>by
  simp only [MB]
  split
  ·rename_i h
   subst h;rw [Qm i j l];simp only [lk]
   by_cases e:j=i
   ·simp [e]
   ·simp [e,bt e]
  ·rename_i h
   simp only [lk];rw [Qm k j l]
   by_cases e:i=j
   ·subst e;simp [h]
   ·simp [e]
def St.Ei(s:St)(t:Nat):St:={s with vars:=MB t s.vars}
section
variable {C:Cx}{s:St}{a:Act}{w w':World}{E:Env}{k:List KI}{all:Array Oper}{l:List Oper}{o:Oper}
def aB.turn(g:aB C s a w E)(Q:C.dr=false){cs:List SV}(K:s.var t=some cs)(h:Aside (E.vb t) w w'):aB C (s.Ei t) a w' E:=by
 obtain⟨u,e,m,hs,_⟩:=g.vars t cs K;have d:Keeps w E.G w' E.G:=⟨λ_ _ h=>h,λq o z=>gb (a:=⟨q,o,none⟩) (h.block q (g.gw q o z) (λe=>m.2.1 o (e▸z))),λq o z=>h.block q (g.gw q o z) (λe=>m.2.1 o (e▸z))⟩
 have H:∀j c,(s.Ei t).var j=some c->j≠t/\s.var j=some c:=by
  intro j c h;simp only [St.var,St.Ei,Qm]at h
  split at h
  ·cases h
  ·exact⟨kf,h⟩
 have N:∀{b:Nat} {u:Array Value} {e:TypeId},Mine C E.G w b u e->b≠E.vb t->Mine C E.G w' b u e:=λM l=>⟨M.1,M.2.1,(h.block _ M.lt l).trans M.2.2⟩
 exact{
  kept:=⟨h.os.trans g.kept.os,h.tape.trans g.kept.tape,h.output.trans g.kept.output,bz g.kept.size h.size,λk d hm=>(h.block k (cj d g.kept.size) (λe=>by
   subst e;rcases m.1 with n|n
   ·omega
   ·exact hm n)).trans (g.kept.block k d hm),λhd=>by rw [Q]at hd;cases hd⟩
  defers:=g.defers
  size:=g.size
  g0:=g.g0
  g1:=g.g1
  tab:=g.tab.keep d
  gw:=λb o A=>cj (g.gw b o A) h.size
  slots:=λj=>(g.slots j).keep d rfl rfl
  aV:=λj=>(g.aV j).keep d rfl rfl
  vars:=λj c f=>by
   obtain⟨l,f⟩:=H j c f;obtain⟨U,X,M,O,v⟩:=g.vars j c f;exact⟨U,X,N M (λe=>l (g.vv j t c cs f K e)),O,λi hi=>⟨(v i hi).1,(v i hi).2.keep d rfl rfl⟩⟩
  rows:=λi r L=>by
   rcases g.rows i r L with h0|⟨b,D,U,n,M,T,h3,h4,h5,h6⟩
   ·exact .inl h0
   ·exact .inr ⟨b,D,U,n,N M (λe=>g.vr t cs i r (b,D) K L n e.symm),T,h3,h4,h5,λk j P f=>(h6 k j P f).keep d⟩
  maps:=λr mm L=>(g.maps r mm L).keep d (λh=>h) (λi x J hn=>(h.block i (bm.1 J).1 (λe=>by
   subst e;rw [m.2.2]at J;cases J;exact hn _ _ _ rfl)).trans J)
  boxes:=λj c f=>by
   obtain⟨n,⟨X,M⟩,T⟩:=g.boxes j c f;exact⟨n,⟨X,N M (λe=>g.bv j t c cs f K e)⟩,T⟩
  vv:=λj j' c G h A=>g.vv j j' c G (H j c h).2 (H j' G A).2
  rr:=g.rr
  vr:=λj c i r p h=>g.vr j c i r p (H j c h).2
  bb:=g.bb
  bv:=λj Z c G h A=>g.bv j Z c G h (H Z G A).2
  br:=g.br
  aZ:=g.aZ
  bM:=g.bM
  bI:=g.bI}
def R.I3{f:FuncId}{cs:List SV}{u:Value}(r:C.dr=false)(d:o.op= .call ⟨.value (.func f),xs,T⟩)(i:o.guard=none)(m:bU s o)(j:aF C.P f)(v:s.var t=some cs)(b:u.oneCell'=true)
  (n:∀a w E,aB C s a w E->ey C.P f (xs.map a.eval) w λe w'=>e= .returned u/\Aside (E.vb t) w w')
  (next:R C (.ops all l::k) ((s.Ei t).put o.dst (.pd (.raw u)))):R C (.ops all (o::l)::k) s:=by
 intro a w E g;refine bA i λK p=>?_;have H:=fJ (P:=C.P) (w:=w) j a.eval o (.func f) xs T #[] d #[] rfl;unfold b5;rw [H,fy];have:=n a w E g;simp only [ip,mE];refine this.mono ?_;rintro e w' ⟨rfl,h⟩;exact p _ _ (next _ _ _ ((g.turn r v h).eY (show bU (s.Ei t) o from m) (Rd.raw _ b) qr))
def NewAt(w:World)(G:Pub)(ds:List PD)(e:Ending)(w':World):Prop:=
 ∃b a C t,e= .returned (.pointer (some ⟨b,0,none⟩))/\w.heap.size<=b/\Go.RowKit.Below w.heap.size w w'/\w'.heap[b]? =some (.cells C t (0,0))/\C.size=ds.length/\(∀q o,G q o->a q o)/\(∀q o,a q o->G q o\/(w.heap.size<=q/\q<w'.heap.size))/\(∀o,¬a b o)/\∀j,j<ds.length->Rd w' a (C.getD j undef) (ds.getD j (.ak []))
def R.Qn{f:FuncId}{ds:List PD}(L:C.dr=false)(ho:o.op= .call ⟨.value (.func f),xs,T⟩)(hg:o.guard=none)(q:o.dst=some t)(ht:t<s.n)(x:C.vb0 t=none)(h:aF C.P f)
  (hc:∀a w E,aB C s a w E->ey C.P f (xs.map a.eval) w (NewAt w E.G ds))
  (next:R C (.ops all l::k) ((s.set t .dead).newVar t (ds.map .pd))):R C (.ops all (o::l)::k) s:=by
 intro a w E g;refine bA hg λK hK=>?_;have n:=fJ (P:=C.P) (w:=w) h a.eval o (.func f) xs T #[] ho #[] rfl;unfold b5;rw [n,fy];have:=hc a w E g;simp only [ip,mE];refine this.mono ?_;rintro e U ⟨b,Q,M,X,rfl,hb,u,H,A,d,m,J,D⟩;have g1:=g.Jt u (λO=>by rw [L]at O;cases O) Q d m;have g2:=g1.dead ht (.pointer (some ⟨b,0,none⟩));have z:t<a.tmps.size:=yl
 have g3:=g2.named (b:=b) (cs:=ds.map .pd) (by rw [dF a t _ t z,af rfl]) (⟨.inl (bz g.kept.size hb),J,H⟩:Mine C Q U b M X) (uu A) (λj hj=>by
   simp only [al]at hj;have:=D j hj;have e1:(ds.map SV.pd).getD j .dead= .pd (ds.getD j (.ak [])):=j5;rw [e1];exact⟨this.oneCell,this.tV⟩)
  (λN v Z _ h=>by have:=g.nU (t:=N) (cs:=v) Z;have h:E.vb N=b:=h;omega)
  (λi r p hi hp h=>by have:=g.ku (i:=i) (r:=r) hi (p:=p) hp;omega)
  (λj v hj G h=>by
   rw [St.fO,ae G]at hj;have:=g.tX hj;have h:E.bx j=b:=h;omega) x
 rw [q];exact hK _ _ (next _ _ _ g3)
end
end Go.au
namespace Go.Proofs.Z
open Go.au
variable {G:Pub}{b g o:Nat}{e:TypeId}{v:Value}{d a w' f:World}
def Pub.and(G:Pub)(b n:Nat):Pub:=λq o=>G q o\/(q=b/\o<n)
def OT{w:World}(hG:Go.au.Good w G)(hnb:∀o,¬G b o)(hb:w.heap[b]? =some (.cells #[.int .u32 0,.int .i32 1,.int .u32 0,.nilIface,v] e (0,0)))(hv:Rd w G v (strs pI)):
  ey aa 376 #[.pointer (some ⟨b,0,none⟩)] w λr w2=>r= .returned (.tuple #[])/\∃g w1,Built w (Pub.and G b 5) (.returned (.iface 474 (.pointer (some ⟨g,0,none⟩)))) w1/\w2=(w1.setCell ⟨b,3,none⟩ (.iface 474 (.pointer (some ⟨g,0,none⟩)))).setCell ⟨b,4,none⟩ (.slice none 0 0):=by
 have hbl:b<w.heap.size:=(bm.1 hb).1;have hk:Keeps w G w (Pub.and G b 5):=.same λ_ _ h=>.inl h;have hG1:Go.au.Good w (Pub.and G b 5):=⟨λq o h=>h.elim (hG.lt q o) (λh=>by rw [h.1];exact hbl),hG.tab.keep hk⟩
 have hp:iR aa w (Pub.and G b 5) (.pointer (some ⟨b,0,none⟩)) (.ref (rpl (.int .u32 0) (.int .i32 1) (.int .u32 0) .nilIface pI) 0):=by
  refine⟨b,0,rfl,λj hj=>?_⟩;have hj:j<5:=hj;refine⟨.inr ⟨rfl,qk⟩,?_⟩;rcases j with _|_|_|_|_|j
  ·exact⟨.int .u32 0,y3,.raw _ rfl⟩
  ·exact⟨.int .i32 1,y3,.raw _ rfl⟩
  ·exact⟨.int .u32 0,y3,.raw _ rfl⟩
  ·exact⟨.nilIface,y3,.raw _ rfl⟩
  ·exact⟨v,y3,hv.keep hk⟩
  ·omega
 go_enter Tryz.func376,Tryz.ntmps376
 go_wp2_with (go_at_call 398;refine(Is w (Pub.and G b 5) _ _ _ _ _ hG1 hp).mono ?_;rintro r w1 ⟨g,rfl,hg,hrd,hbel⟩;have hb1:=(hbel.block b hbl).trans hb;have hc3:w1.cell? ⟨b,3,none⟩=some .nilIface:=by{simp [cP,hb1]};have hf3:∀o,w1.frozen? ⟨b,o,none⟩=false:=λo=>by{simp [lr,hb1]};have hc4:w1.cell? ⟨b,4,none⟩=some v:=by{simp [cP,hb1]};have avi:=hf3 3;have avj:=hf3 4)
 exact⟨rfl,.tuple #[],results_none rfl _ _ _,rfl,g,w1,⟨g,rfl,hg,hrd,hbel⟩,rfl⟩
def Pub.off(G:Pub)(b:Nat):Pub:=λq o=>G q o/\q≠b
def odd(u:Value):Prop:=(∃s,u= .string s)\/∃n,u= .int .u8 n
def Ce{w:World}{ds:List PD}(n:∀o u,w.cell? ⟨b,o,none⟩=some u->¬odd u)(m:∀d∈ds,∃u,d= .raw u/\odd u)(h:Rd w G v (.list 1 ds)):Rd w (Pub.off G b) v (.list 1 ds):=by
 rcases Rd.jM h with⟨p,rfl,rfl⟩|⟨q,o,C,rfl,A,z,t,s⟩
 ·exact Rd.emp 1 p
 ·refine Rd.nV A z t λi hi j l=>?_
  obtain⟨r,u,g,f⟩:=s i hi j l;have H:ds.getD i (.ak [])=ds[i]:=ym;obtain⟨x,k,a⟩:=m ds[i] (am hi);rw [H,k]at f;have E:u=x:=aH.aC (Rd.tV f);refine⟨⟨r,λe=>?_⟩,u,g,?_⟩
  ·rw [e]at g;exact n _ _ g (E▸a)
  ·rw [H,k];exact(E▸ .raw _ f.oneCell)
def Ex{w:World}(f:∀o u,w.cell? ⟨b,o,none⟩=some u->¬odd u)(p:g≠b)(h:lD w G g 0 (.ak jF)):lD w (Pub.off G b) g 0 (.ak jF):=by
 intro j k;obtain⟨r,v,q,H⟩:=h j k;refine⟨⟨r,p⟩,v,q,?_⟩;have k:j<257:=by have:=kH;rw [<-this];exact k
 have H:Rd w G v (jF.getD j (.ak [])):=H;show Rd w (Pub.off G b) v (jF.getD j (.ak []));rcases cn j 256 with l|l
 ·rw [Qk l]at H⊢
  unfold L9 at H⊢;have i:∀c:UInt8,∃u,U8 c= .raw u/\odd u:=λc=>⟨_,rfl,.inr ⟨_,rfl⟩⟩
  by_cases n:j=10
  ·rw [af n]at H⊢;exact Ce f (by intro d a;simp at a;rcases a with rfl|rfl<;>exact i _) H
  ·rw [ae n]at H⊢
   by_cases m:j=34
   ·rw [af m]at H⊢;exact Ce f (by intro d a;simp at a;rcases a with rfl|rfl<;>exact i _) H
   ·rw [ae m]at H⊢
    by_cases C:j=92
    ·rw [af C]at H⊢;exact Ce f (by intro d a;simp at a;subst a;exact i _) H
    ·rw [ae C]at H⊢
     have e:v= .slice none 0 0:=aH.aC (Rd.tV H);rw [e];exact .raw _ rfl
 ·have e:j=256:=qk
  subst e;rw [FK]at H⊢;exact Ce f (by intro d a;obtain⟨c,_,rfl⟩:=aq.1 a;exact⟨_,rfl,.inl ⟨_,rfl⟩⟩) H
structure Only(b:Nat)(w w':World):Prop where
 os:w'.os=w.os
 tape:w'.tape=w.tape
 output:w'.output=w.output
 size:w'.heap.size=w.heap.size
 block:∀k,k≠b->w'.heap[k]? =w.heap[k]?
def Only.trans{w:World}(h:Only b w d)(k:Only b d a):Only b w a:=⟨k.os.trans h.os,k.tape.trans h.tape,k.output.trans h.output,k.size.trans h.size,λj H=>(k.block j H).trans (h.block j H)⟩
def A8(w:World)(b o:Nat)(v:Value):Only b w (w.setCell ⟨b,o,none⟩ v):=⟨rfl,rfl,rfl,by simp [gp],λk h=>by simp [gp,fg,bt h]⟩
def Ba{w:World}{cur:Array Value}(v:Value)(h:w.heap[b]? =some (.cells cur e (0,0))):(w.setCell ⟨b,o,none⟩ v).heap[b]? =some (.cells (cur.setIfInBounds o v) e (0,0)):=by
 simp [gp,fg,h]
def Only.keeps{w:World}(h:Only b w w')(H:∀o,¬G b o):Keeps w G w' G:=
 ⟨λ_ _ h=>h,λq o g=>gb (a:=⟨q,o,none⟩) (h.block q λe=>H o (e▸g)),λq o g=>h.block q λe=>H o (e▸g)⟩
def Oj{w:World}(h:Only b w w'):Go.au.Aside b w w':=⟨h.os,h.tape,h.output,Nat.le_of_eq h.size.symm,λk _ H=>h.block k H⟩
def odd_cells(g:Rd f G v (strs pI))(h:d.heap[b]? =some (.cells (#[.int .u32 0,.int .i32 0,.int .u32 0,.nilIface,v].setIfInBounds 1 (.int .i32 1)) e (0,0))):∀o u,d.cell? ⟨b,o,none⟩=some u->¬odd u:=by
 intro o u H a;simp only [cP,h]at H;rcases o with _|_|_|_|_|o
 ·cases H;rcases a with⟨_,h⟩|⟨_,h⟩<;>cases h
 ·cases H;rcases a with⟨_,h⟩|⟨_,h⟩<;>cases h
 ·cases H;rcases a with⟨_,h⟩|⟨_,h⟩<;>cases h
 ·cases H;rcases a with⟨_,h⟩|⟨_,h⟩<;>cases h
 ·have H:v=u:=uu H
  subst H;rcases Rd.jM g with⟨_,e,_⟩|⟨_,_,_,e,_⟩<;>rw [e]at a<;>rcases a with⟨_,h⟩|⟨_,h⟩<;>cases h
 ·simp at H
def Pub.lim(G:Pub)(w:World):Pub:=λq o=>G q o/\q<w.heap.size
def cell_lt{w:World}{q:Nat}(h:w.cell? ⟨q,o,none⟩=some v):q<w.heap.size:=by
 unfold cP at h
 cases H:w.heap[q]? with
 |none=>simp [H]at h
 |some x=>exact(bm.1 H).1
def R4{w:World}{d:PD}(h:Rd w G v d):Rd w (Pub.lim G w) v d:=by
 induction h with
 |raw v h=>exact .raw v h
 |nil z=>exact .nil z
 |empty z a=>exact .empty z a
 |list z D b off m s p x o Q H _ g=>
  exact .list z D b off m s p x o (λi j k e=>⟨Q i j k e,cell_lt (H i j k e)⟩) H g
 |clo f D bs s l Q H _ g=>exact .clo f D bs s l (λi j k e=>⟨Q i j k e,cell_lt (H i j k e)⟩) H g
 |mp K D r E C J A n t l u q _ g=>exact .mp K D r E C J ⟨A,(bm.1 n).1⟩ n t l u q g
 |ptr d b off s Q H _ g=>exact .ptr d b off s (λj e=>⟨Q j e,cell_lt (H j e)⟩) H g
 |unk v h=>exact .unk v h
def I6{w:World}{off:Nat}{d:PD}(h:lD w G b off d):lD w (Pub.lim G w) b off d:=by
 intro j a;obtain⟨f,v,H,e⟩:=h j a;exact⟨⟨f,cell_lt H⟩,v,H,R4 e⟩
def E7(b:Nat)(w:World):Only b w w.drew:=⟨rfl,rfl,rfl,rfl,λ_ _=>rfl⟩
def Pa{q:ByteArray}(s:bg aa 475 [.ref (.ak jF) 0,.pd (S q)] [S (str (bf (bytes q)))]){z:World}(J:Go.au.Good a G)(x:∀o,¬G b o)(Q:b<a.heap.size)(X:a.heap.size<=g)(l:∀o u,f.cell? ⟨b,o,none⟩=some u->¬odd u)
  {d:PD}(P:d= .ak jF)(n:lD f ((Pub.and G b 5).new a.heap.size) g 0 d)(H:Go.RowKit.Below a.heap.size a f)(p:Only b f z):ey aa 475 #[.pointer (some ⟨g,0,none⟩),.string q] z λr L=>r= .returned (.string (str (bf (bytes q))))/\Go.RowKit.Below z.heap.size z L:=by
 subst P;have C:g≠b:=qk;have K:=H.size;have M:Keeps a (Pub.off G b) f (Pub.off ((Pub.and G b 5).new a.heap.size) b):=Keeps.uU (λq o h=>J.lt q o h.1) H λq o h=>⟨.inl (.inl h.1),h.2⟩;have U:=Ex l C n;have A:Keeps f (Pub.lim (Pub.off ((Pub.and G b 5).new a.heap.size) b) f) z (Pub.lim (Pub.off ((Pub.and G b 5).new a.heap.size) b) f):=p.keeps λo h=>h.1.2 rfl;have T:lD f (Pub.lim (Pub.off ((Pub.and G b 5).new a.heap.size) b) f) g 0 (.ak jF):=I6 U
 have E:Go.au.Good z (Pub.lim (Pub.off ((Pub.and G b 5).new a.heap.size) b) f):=by
  refine⟨λq o h=>by rw [p.size];exact h.2,?_⟩;obtain⟨t,e,d,O⟩:=J.tab;have k:TB≠b:=λe=>x 0 (e▸t);have j:=J.lt _ _ t;exact⟨⟨⟨.inl (.inl t),k⟩,cj j K⟩,e,d,(p.block TB k).trans ((H.block TB j).trans O)⟩
 refine(s.2 z _ #[.pointer (some ⟨g,0,none⟩),.string q] E rfl (λi N=>?_)).mono ?_
 ·match i,N with
  |0,_=>exact⟨g,0,rfl,T.keep A⟩
  |1,_=>exact Rd.raw _ rfl
 ·rintro r L ⟨v,rfl,m,D⟩
  have m:v= .string (str (bf (bytes q))):=aH.aC m;subst m;exact⟨rfl,D⟩
def E9(q:ByteArray){w:World}{R:Ending->World->Prop}(Q:World->Nat->Prop)
  (hdo:ey aa 375 #[.pointer (some ⟨b,0,none⟩),.func (.func 376) #[.pointer (some ⟨b,0,none⟩)] #[]] w λe w'=>e= .returned (.tuple #[])/\∃g,Q w' g)
  (h3:∀w' g,Q w' g->w'.cell? ⟨b,3,none⟩=some (.iface 474 (.pointer (some ⟨g,0,none⟩))))
  (hcall:∀w' g,Q w' g->ey aa 475 #[.pointer (some ⟨g,0,none⟩),.string q] w' λr w3=>∃v,r= .returned v/\R (.returned v) w3):
  ey aa 338 #[.pointer (some ⟨b,0,none⟩),.string q] w R:=by
 have hm:∀(p:Option Addr) (w:World),(method 664 474 (.pointer p) "Replace").run aa w= .ok (475,.pointer p) w:=λp w=>qq
 go_enter Tryz.func338,Tryz.ntmps338
 go_wp2_with (first|(go_at_call 375;refine hdo.mono ?_;rintro r w' ⟨rfl,g,hQ⟩;have hc3:=h3 w' g hQ;have hcl:=hcall w' g hQ)|(go_at_call 475;refine hcl.mono ?_;rintro r w3 ⟨v,rfl,hR⟩))
 exact hR
def Uh(w:World)(G:Pub)(b g:Nat)(a:World):Prop:=w.heap.size<=g/\lD a ((Pub.and G b 5).new w.heap.size) g 0 (.ak jF)/\Go.RowKit.Below w.heap.size w a
def tU(w:World)(G:Pub)(b:Nat)(d:World):Prop:=∃g a,Uh w G b g a/\d=(a.setCell ⟨b,3,none⟩ (.iface 474 (.pointer (some ⟨g,0,none⟩)))).setCell ⟨b,4,none⟩ (.slice none 0 0)
def IA(q:ByteArray)(M:q.size<=1000000000){w:World}(L:Go.au.Good w G)(f:∀o,¬G b o)(hb:w.heap[b]? =some (.cells #[.int .u32 0,.int .i32 0,.int .u32 0,.nilIface,v] e (0,0)))(K:Rd w G v (strs pI)):
  ey aa 338 #[.pointer (some ⟨b,0,none⟩),.string q] w λr w'=>r= .returned (.string (str (bf (bytes q))))/\Go.au.Aside b w w':=by
 have C:b<w.heap.size:=(bm.1 hb).1;have O:=A8 w b 1 (.int .i32 1);have l:=O.keeps f;have i:=Ba (o:=1) (.int .i32 1) hb;have n:Go.au.Good (w.setCell ⟨b,1,none⟩ (.int .i32 1)) G:=⟨λq o h=>by rw [O.size];exact L.lt q o h,L.tab.keep l⟩;have E:=OT n f i (K.keep l);have j:b<(w.setCell ⟨b,1,none⟩ (.int .i32 1)).heap.size:=by rw [O.size];exact C
 have d:∀g a,Uh (w.setCell ⟨b,1,none⟩ (.int .i32 1)) G b g a->((a.setCell ⟨b,3,none⟩ (.iface 474 (.pointer (some ⟨g,0,none⟩)))).setCell ⟨b,4,none⟩ (.slice none 0 0)).heap[b]? =some (.cells #[.int .u32 0,.int .i32 1,.int .u32 0,.iface 474 (.pointer (some ⟨g,0,none⟩)),.slice none 0 0] e (0,0)):=by
  intro g a H;have A:=(H.2.2.block b j).trans i;exact Ba (o:=4) (.slice none 0 0) (Ba (o:=3) (.iface 474 (.pointer (some ⟨g,0,none⟩))) A)
 have Q:ey aa 376 #[.pointer (some ⟨b,0,none⟩)] (w.setCell ⟨b,1,none⟩ (.int .i32 1)) λe p=>e= .returned (.tuple #[])/\Left b (tU (w.setCell ⟨b,1,none⟩ (.int .i32 1)) G b) p:=by
  refine E.mono ?_;rintro r p ⟨rfl,g,a,z,rfl⟩;obtain⟨X,N,P,t,m⟩:=z;have u:g=X:=by cases N;rfl
  subst u;have H:Uh (w.setCell ⟨b,1,none⟩ (.int .i32 1)) G b g a:=⟨P,t,m⟩;have k:=d g a H;refine⟨rfl,⟨g,a,H,rfl⟩,?_,?_,?_,?_⟩
  ·simp only [cP,k];rfl
  ·simp only [cP,k];rfl
  ·simp only [lr,k];rfl
  ·simp only [lr,k];rfl
 have x:=do_first b (tU (w.setCell ⟨b,1,none⟩ (.int .i32 1)) G b) w y3 y3 (by simp [lr,hb]) (by simp [lr,hb]) Q;have s:=Z4 q M;refine E9 q (λw' g=>∃a,Uh (w.setCell ⟨b,1,none⟩ (.int .i32 1)) G b g a/\w'=((((a.setCell ⟨b,3,none⟩ (.iface 474 (.pointer (some ⟨g,0,none⟩)))).setCell ⟨b,4,none⟩ (.slice none 0 0)).drew.setCell ⟨b,0,none⟩ (.int .u32 1)).setCell ⟨b,1,none⟩ (.int .i32 0))) (x.mono ?_) ?_ ?_
 ·rintro r w' ⟨rfl,p,⟨g,a,H,rfl⟩,rfl⟩
  exact⟨rfl,g,a,H,rfl⟩
 ·rintro w' g ⟨a,H,rfl⟩
  have k:=d g a H;have U:((a.setCell ⟨b,3,none⟩ (.iface 474 (.pointer (some ⟨g,0,none⟩)))).setCell ⟨b,4,none⟩ (.slice none 0 0)).drew.heap[b]? =_:=k;have T:=Ba (o:=1) (.int .i32 0) (Ba (o:=0) (.int .u32 1) U);simp only [cP,T];rfl
 ·rintro w' g ⟨a,H,rfl⟩
  have J:Only b a ((((a.setCell ⟨b,3,none⟩ (.iface 474 (.pointer (some ⟨g,0,none⟩)))).setCell ⟨b,4,none⟩ (.slice none 0 0)).drew.setCell ⟨b,0,none⟩ (.int .u32 1)).setCell ⟨b,1,none⟩ (.int .i32 0)):=
   ((((A8 _ _ _ _).trans (A8 _ _ _ _)).trans (E7 _ _)).trans (A8 _ _ _ _)).trans (A8 _ _ _ _)
  have A:=(H.2.2.block b j).trans i;refine(Pa s n f j H.1 (odd_cells K A) rfl H.2.1 H.2.2 J).mono ?_;rintro r Z ⟨rfl,D⟩;exact⟨_,rfl,rfl,(((Oj O).trans (.of_below H.2.2)).trans (Oj J)).trans (.of_below D)⟩
end Go.Proofs.Z
namespace Go.au
variable {t e:TypeId}
section
variable {C:Cx}{s:St}{a:Act}{w w':World}{E:Env}{all:Array Oper}{l:List Oper}{k:List KI}{o:Oper}
def R.Pb{x y:Operand}{t':TypeId}{i:Nat}{r:Row}{es:List PD}(ho:o.op= .call ⟨.builtin .append,#[x,y],#[t,t']⟩)(hg:o.guard=none)(hd:bU s o)(g:aB C s a w E)(hu:Rel C.P w E s.row (a.eval x) (.own i))(T:s.row i=some r)(hr0:C.fP i=none)
  (hy:qG s.row (aO s y)=some es)(he:eu C.P t=some e)(hre:r.e=e)(hz:aP C.P e=r.sz)(h0:r.sz≠0)(D:(bG C.P e).map aR=some r.sz)(ht:t'=t)
  (hw:∀i,i<es.length->(es.getD i (.ak [])).width=r.sz)(hb:(r.ds.length+es.length)*iQ C.P e<=140737488355328)(hm:r.ds.length+es.length<=maxLen)
  (next:R C (.ops all l::k) ((s.newRow i ⟨e,r.sz,r.ds++es⟩).put o.dst (.own i))):fin C (.ops all (o::l)::k) .normal a w:=by
 refine bA hg λK hK=>?_;subst ht;have hv:=aT g y;have eP:=iJ he
 obtain⟨q,Z⟩:∃q,C.P.info? e=some q:=by
  unfold aP at hz
  cases h:C.P.info? e with
  |none=>simp [h]at hz;omega
  |some q=>exact⟨q,rfl⟩
 have hsz:q.size=r.sz:=by unfold aP at hz;simpa [Z]using hz
 have hby:q.bytes=iQ C.P e:=by unfold iQ;simp [Z]
 obtain⟨z,hzv,hzl⟩:∃z,q.zero=some z/\z.cells.size=r.sz:=by
  unfold bG at D
  cases h:q.zero with
  |none=>simp [Z,h]at D
  |some z=>simp [Z,h]at D;exact⟨z,rfl,D⟩
 have hsmall:r.ds.length+es.length<=9223372036854775807:=by simp only [maxLen]at hm;omega
 have fin:∀(u':Value) (w':World) (A:Option (Nat×Nat)),(da #[t',t'] o.type #[a.eval x,a.eval y]).run C.P w= .ok u' w'->
   aB C (s.newRow i ⟨e,r.sz,r.ds++es⟩) a w' {E with rb:=λj=>if j=i then A else E.rb j}->
   ((A=none/\u'= .slice none 0 0)\/∃b d,A=some (b,d)/\u'= .slice (some ⟨b,0,none⟩) (r.ds++es).length d)->o.wp C.P a w K (fin C k):=by
  intro u' w' A H g' hpl;unfold b5 execOp;simp only [ho,resolve,invoke,builtin,Sem.run_bind,Sem.run_pure,Result.andThen_ok,cA,ap,ax,H,ci];refine hK _ _ (next _ _ _ (g'.eY (o:=o) hd ?_ qr));intro r' hr';rw [St.iY,af rfl]at hr';cases hr';simp only [a7];exact hpl
 have U:∀(p0:Option Addr) u0,a.eval y= .slice p0 0 0->es=[]->u0=a.eval x->(∃M n c,u0= .slice M n c/\n<=c/\(M=none->n=0))->(da #[t',t'] o.type #[a.eval x,a.eval y]).run C.P w= .ok u0 w:=by
  rintro p0 u0 hy0 _ hu0 ⟨M,n,c,rfl,O,hbn⟩;rw [<-hu0,hy0]
  cases M with
  |none=>cases p0<;>simp [da,bq eP,Go.sizeOf,typeInfo,Z,fu,O,gN,loadCells,loadCellsFrom]
  |some ad=>cases p0<;>simp [da,bq eP,Go.sizeOf,typeInfo,Z,fu,O,gN,loadCells,loadCellsFrom,storeCells]
 have u:es=[]->aB C (s.newRow i ⟨e,r.sz,r.ds++es⟩) a w {E with rb:=λj=>if j=i then E.rb i else E.rb j}:=by
  intro J;subst J;refine g.row (i:=i) (E.rb i) (Keeps.refl _ _) g.kept (a3 _) (λp hp=>g.bM i p hp) (λ_ _ _=>rfl) ?_ (λb d h=>.inr ⟨r,(b,d),T,h,rfl⟩);rcases g.rows i r T with⟨L,h2⟩|⟨b,d,f,L,m,h2⟩
  ·exact .inl ⟨L,j7⟩
  ·refine .inr ⟨b,d,f,L,by rw [<-hre];exact m,?_⟩
   simpa using h2
 have Au:∀(xs N:List Value) (d:Nat),xs.length=r.ds.length*r.sz->N.length=es.length*r.sz->
   (∀k j,k<r.ds.length->j<r.sz->Rd w E.G (xs.getD (k*r.sz+j) undef) ((r.ds.getD k (.ak [])).cell j))->(∀k j,k<es.length->j<r.sz->Rd w E.G (N.getD (k*r.sz+j) undef) ((es.getD k (.ak [])).cell j))->
   r.ds.length+es.length<=d->d<=maxLen->
   aB C (s.newRow i ⟨e,r.sz,r.ds++es⟩) a (w.drew.alloc (.cells (xs.toArray++N.toArray++fe z.cells (d-(r.ds.length+es.length))) e)) {E with rb:=λj=>if j=i then some (w.heap.size,d)else E.rb j}:=by
  intro xs N d hxs X hrx hrn hc1 hc2;have hk:=Ar g (.cells (xs.toArray++N.toArray++fe z.cells (d-(r.ds.length+es.length))) e);refine g.row (i:=i) (some (w.heap.size,d)) hk (g.kept.trans (.of_below ((zB w).trans (bF w.drew _)))) qr (λp hp=>jb) (λb hb _=>heap_alloc_old w.drew _ hb) (.inr ⟨w.heap.size,d,_,rfl,⟨.inl g.kept.size,λo ho=>w8,heap_alloc_new w.drew _⟩,?_,?_,hc2,?_,?_⟩) (λb c h=>vl)
  ·simp only [io,dp,size_zeroCells,hzl,hxs,X,<-d7]
   congr 1;omega
  ·simpa using hc1
  ·exact rY r.ds es r.sz (λk hk=>g.oM T hk) hw
  ·intro k j hk' hj
   have e1:(xs.toArray++N.toArray++fe z.cells (d-(r.ds.length+es.length))).getD (k*r.sz+j) undef=(xs++N++(fe z.cells (d-(r.ds.length+es.length))).toList).getD (k*r.sz+j) undef:=by
    simp only [aL,ag,<-ff,Array.toList_append]
   show Rd _ _ ((xs.toArray++N.toArray++fe z.cells (d-(r.ds.length+es.length))).getD (k*r.sz+j) undef) _;rw [e1];exact(yw hxs hrx hrn _ X k j hk' hj).keep hk
 rcases BO g hy hv hw with⟨⟨p0,hy0⟩,J⟩|⟨b2,off,c,N,hy1,hnl,O,hn1,hnr⟩
 ·
  rcases hu r T with⟨L,h2⟩|⟨b,d,L,h2⟩
  ·exact fin _ w (E.rb i) (U p0 (.slice none 0 0) hy0 J h2.symm ⟨none,0,0,rfl,a3 _,λ_=>rfl⟩) (u J) (.inl ⟨L,rfl⟩)
  ·have hcap:r.ds.length<=d:=by
    rcases g.rows i r T with⟨h3,_⟩|⟨b',cap',f,h3,_,_,h4,_⟩
    ·rw [h3]at L;cases L
    ·rw [h3]at L;cases L;exact h4
   exact fin _ w (E.rb i) (U p0 _ hy0 J h2.symm ⟨some ⟨b,0,none⟩,r.ds.length,d,rfl,hcap,qr⟩) (u J) (.inr ⟨b,d,L,by simp [J]⟩)
 ·rcases hu r T with⟨L,h2⟩|⟨b,d,L,h2⟩
  ·have Q:=g.nX i r T L
   by_cases hm0:es.length=0
   ·have J:es=[]:=kk hm0
    refine fin (.slice none 0 0) w (E.rb i) ?_ (u J) (.inl ⟨L,rfl⟩);rw [h2,hy1,hm0];simp [da,bq eP,Go.sizeOf,typeInfo,Z,fu,gN,loadCells,loadCellsFrom]
   ·have H:=run_append_nil (P:=C.P) w t' o.type e q z eP Z hzv ⟨b2,off,none⟩ es.length c N wy O qk qk (by rw [hby];rw [Q]at hb;simp only [a9,cx]at hb;omega)
    rw [<-h2,<-hy1]at H;have hge:=grownCap_ge w es.length 0 e;have hle:=grownCap_le_maxLen w es.length 0 e qk;have g':=Au [] N (grownCap w es.length 0 e) (by simp [Q]) hnl (λk j hk _=>by simp [Q]at hk) hnr (by simp [Q];exact hge) hle;refine fin _ _ (some (w.heap.size,grownCap w es.length 0 e)) H ?_ (.inr ⟨_,_,rfl,by simp [Q]⟩);simpa [Q]using g'
  ·rcases g.rows i r T with⟨h3,_⟩|⟨b',cap',f,h3,m,hcs,hcl,hcm,_,hrd⟩
   ·rw [h3]at L;cases L
   ·rw [h3]at L;cases L
    rw [hre]at m
    have hxl:(f.toList.take (r.ds.length*r.sz)).length=r.ds.length*r.sz:=by
     have:r.ds.length*r.sz<=d*r.sz:=c9 _ hcl;simp;omega
    have hxr:∀k j,k<r.ds.length->j<r.sz->Rd w E.G ((f.toList.take (r.ds.length*r.sz)).getD (k*r.sz+j) undef) ((r.ds.getD k (.ak [])).cell j):=by
     intro k j hk hj
     have hlt:k*r.sz+j<r.ds.length*r.sz:=by
      have:k*r.sz+r.sz<=r.ds.length*r.sz:=ye;omega
     have:=hrd k j hk hj;rw [aL]at this;rw [ag,eD,af hlt,ff];exact this
    by_cases G:r.ds.length+es.length<=d
    ·have hfit:r.ds.length*q.size+N.length<=f.size:=by rw [hnl,hsz,hcs,<-d7];exact c9 _ G
     have H:=run_append_room (P:=C.P) w t' o.type e q eP Z b r.ds.length d f m.2.2 ⟨b2,off,none⟩ es.length c N wy O hn1 G hfit;rw [<-h2,<-hy1,hsz]at H;have hk:Keeps w E.G (w.setRow b (f.toList.take (r.ds.length*r.sz)++N++f.toList.drop (r.ds.length*r.sz+N.length)).toArray) E.G:=kD _ m.2.1;refine fin _ _ (some (b,d)) H ?_ (.inr ⟨b,d,rfl,qr⟩);refine g.row (i:=i) (some (b,d)) hk (tY g.kept _ m.1) (by simp [World.setRow]) (λp hp=>jb) (λb0 hb0 hne=>setRow_other w b b0 _ (hne r (b,d) T h3)) (.inr ⟨b,d,_,rfl,m.set,?_,uu G,hcm,?_,?_⟩) (λb0 c0 h=>by cases h;exact .inr ⟨r,(b,d),T,h3,rfl⟩)
     ·simp only [dp,bd,hxl,fa,cb,hnl,hcs]
      have:(r.ds.length+es.length)*r.sz<=d*r.sz:=c9 _ G;rw [d7]at this;omega
     ·exact rY r.ds es r.sz (λk hk=>g.oM T hk) hw
     ·intro k j hk' hj
      have e1:(f.toList.take (r.ds.length*r.sz)++N++f.toList.drop (r.ds.length*r.sz+N.length)).toArray.getD (k*r.sz+j) undef=(f.toList.take (r.ds.length*r.sz)++N++f.toList.drop (r.ds.length*r.sz+N.length)).getD (k*r.sz+j) undef:=by
       rw [aL,ag,gc]
      show Rd _ _ ((f.toList.take (r.ds.length*r.sz)++N++f.toList.drop (r.ds.length*r.sz+N.length)).toArray.getD (k*r.sz+j) undef) _;rw [e1];exact(yw hxl hxr hnr _ hnl k j hk' hj).keep hk
    ·have holds:∀j v,(f.toList.take (r.ds.length*r.sz))[j]? =some v->w.cell? ((⟨b,0,none⟩:Addr).add j)=some v:=by
      intro j v hv;rw [addr_add,cx,cell_of_row w b j f e _ m.2.2];rw [eD]at hv
      split at hv
      ·simpa using hv
      ·cases hv
     have H:=run_append_grow (P:=C.P) w t' o.type e q z eP Z hzv ⟨b,0,none⟩ r.ds.length d (f.toList.take (r.ds.length*r.sz)) (by rw [hsz];exact hxl) holds ⟨b2,off,none⟩ es.length c N wy O qk qk (growslice_fits qk (by rw [hby];exact hb));rw [<-h2,<-hy1]at H;have hge:=grownCap_ge w (r.ds.length+es.length) d e;have hle:=grownCap_le_maxLen w (r.ds.length+es.length) d e hm;exact fin _ _ (some (w.heap.size,grownCap w (r.ds.length+es.length) d e)) H (Au _ N _ hxl hnl hxr hnr hge hle) (.inr ⟨_,_,rfl,qr⟩)
def R.Ro{y:Operand}{T:TypeId}{es:List PD}(i sz:Nat)(q:o.op= .call ⟨.builtin .append,#[.const (.slice none 0 0),y],#[t,T]⟩)(u:o.guard=none)(x:bU s o)(hr0:C.fP i=none)
  (d:qG (s.newRow i ⟨e,sz,[]⟩).row (aO (s.newRow i ⟨e,sz,[]⟩) y)=some es)(v:eu C.P t=some e)(z:aP C.P e=sz)(D:sz≠0)(H:(bG C.P e).map aR=some sz)(j:T=t)
  (f:∀i,i<es.length->(es.getD i (.ak [])).width=sz)(A:es.length*iQ C.P e<=140737488355328)(hm:es.length<=maxLen)
  (next:R C (.ops all l::k) (((s.newRow i ⟨e,sz,[]⟩).newRow i ⟨e,sz,es⟩).put o.dst (.own i))):R C (.ops all (o::l)::k) s:=by
 intro a w E g;have G:=g.row (i:=i) (r':=⟨e,sz,[]⟩) (w':=w) none (Keeps.refl _ _) g.kept (a3 _) (λp hp=>jb) (λ_ _ _=>rfl) (.inl ⟨rfl,rfl⟩) (λb J h=>xa);have n:(s.newRow i ⟨e,sz,[]⟩).row i=some ⟨e,sz,[]⟩:=by rw [St.iY,af rfl]
 refine R.Pb (s:=s.newRow i ⟨e,sz,[]⟩) (r:=⟨e,sz,[]⟩) (es:=es) q u x G (λr m=>?_) n hr0 d v rfl z D H j f (uu A) (uu hm) (uu next);exact .inl ⟨qr,rfl⟩
end
end Go.au
namespace Go.Proofs.Z
open Go.au
variable {s:St}{G:Pub}{all:Array Oper}{l:List UInt8}{w':World}{b:Nat}{p:Value}
def VN:aF aa 337:=λ_ _=>qq
abbrev xX:List PD:=[.raw (.int .u32 0),.raw (.int .i32 0),.raw (.int .u32 0),.raw .nilIface,strs pI]
def Qo(w:World)(G:Pub)(p:Value)(k:Go.au.Good w G)(d:iR aa w G p (.pd (strs pI))):ey aa 337 #[p] w (NewAt w G xX):=by
 refine Rn (args:=[.pd (strs pI)]) Tryz.func337 rfl (by simp [Tryz.ntmps337]) k rfl (λi a=>by
  obtain rfl:i=0:=uu a;exact d) ?_
 simp only [pI];apply aj;simp only [go_sem,↓reduceIte,Int.cast_ofNat_Int,Int.reduceBEq,Int.reduceTMod];refine⟨qu,?_⟩;refine R.Ro (es:=[str [34],str [92,34],str [92],str [92,92],str [10],str [92,110]].map S) (e:=9) 94 1 rfl rfl (ah qn) rfl rfl yA NV qu (congrArg (Option.map aR) QZ) rfl (λi a=>by simp only [al]at a;rw [getD_map S _ i a];rfl) (by show _*iQ aa 9<=_;rw [QY];decide) qu ?_;simp only [go_sem];refine R.dI 94 rfl rfl ?_;refine ar ?_;refine R.ret λA n E g=>?_;have l:A.tmps.getD 2 undef= .pointer (some ⟨E.vb 11,0,none⟩):=g.slots 2;obtain⟨C,t,m,s,H⟩:=g.vars 11 (xX.map .pd) rfl;refine⟨g.defers,.pointer (some ⟨E.vb 11,0,none⟩),?_,E.vb 11,E.G,C,t,rfl,?_,g.kept.Ah,m.2.2,s.2 qu,g.g0,λq o h=>?_,m.2.1,λj f=>?_⟩
 ·rw [iH (vs:=[.pointer (some ⟨E.vb 11,0,none⟩)]) (by show(([ResultVar.tmp 2]:List ResultVar).mapM (l9 A.tmps)).run _ _=_;simp [l9,l])];rfl
 ·rcases m.1 with h|h
  ·exact h
  ·exact h.elim
 ·rcases g.g1 q o h with b|b
  ·exact .inl b
  ·exact .inr ⟨b,g.gw q o h⟩
 ·match j,f with
  |0,_=>exact(H 0 qu).2
  |1,_=>exact(H 1 qu).2
  |2,_=>exact(H 2 qu).2
  |3,_=>exact(H 3 qu).2
  |4,_=>exact(H 4 qu).2
def R5:aF aa 338:=λ_ _=>qq
def R6(L:List UInt8):(⟨#[34]⟩:ByteArray)++str L=str (34::L):=Ql [34] L
def R7(t:ByteArray):str (34::bf (bytes t))++(⟨#[34]⟩:ByteArray)=rD t:=by
 have:=Ql (34::bf (bytes t)) [34];rw [this];rfl
def Rq(l:List UInt8):(bf l).length<=2*l.length:=by
 induction l with
 |nil=>simp [bf]
 |cons c l i=>
  have:bf (c::l)=iZ c++bf l:=rfl;rw [this,bd,an]
  have:(iZ c).length<=2:=by
   unfold iZ
   repeat' split
   all_goals simp
  omega
def Z5{t:ByteArray}(b:t.size<=200):(((⟨#[34]⟩:ByteArray).size+(str (bf (bytes t))).size:Nat):Int)<=IntKind.i64.max:=by
 have e:=Rq (bytes t);have d:(bytes t).length=t.size:=cb;have a:(⟨#[34]⟩:ByteArray).size=1:=rfl;have H:(str (bf (bytes t))).size=(bf (bytes t)).length:=rfl;have h:IntKind.i64.max=9223372036854775807:=rfl;rw [a,H,h];omega
def Z7{t:ByteArray}(b:t.size<=200):(((str (34::bf (bytes t))).size+(⟨#[34]⟩:ByteArray).size:Nat):Int)<=IntKind.i64.max:=by
 have e:=Rq (bytes t);have d:(bytes t).length=t.size:=cb;have a:(⟨#[34]⟩:ByteArray).size=1:=rfl;have H:(str (34::bf (bytes t))).size=(bf (bytes t)).length+1:=rfl;have h:IntKind.i64.max=9223372036854775807:=rfl;rw [a,H,h];omega
def ID(t:ByteArray)(A:t.size<=200){C:Cx}{a:Act}{w:World}{E:Env}(g:aB C s a w E)(v:s.var 11=some (xX.map .pd)){u x:Value}(j:u= .pointer (some ⟨E.vb 11,0,none⟩))(d:aH w E.G x (S t)):
  ey aa 338 #[u,x] w λe w'=>e= .returned (.string (str (bf (bytes t))))/\Go.au.Aside (E.vb 11) w w':=by
 obtain⟨r,T,m,h,H⟩:=g.vars 11 _ v;subst j;have d:x= .string t:=aH.aC d;subst d;have z:r.getD 0 undef= .int .u32 0:=aH.aC (w:=w) (G:=E.G) (H 0 qr).2;have q:r.getD 1 undef= .int .i32 0:=aH.aC (w:=w) (G:=E.G) (H 1 qr).2;have p:r.getD 2 undef= .int .u32 0:=aH.aC (w:=w) (G:=E.G) (H 2 qr).2;have o:r.getD 3 undef= .nilIface:=aH.aC (w:=w) (G:=E.G) (H 3 qr).2;have n:Rd w E.G (r.getD 4 undef) (strs pI):=(H 4 qr).2;have h:r.size=5:=h.2 qu
 have b:r= #[.int .u32 0,.int .i32 0,.int .u32 0,.nilIface,r.getD 4 undef]:=by
  apply d6
  ·simpa using h
  ·intro i l k
   have:i=0\/i=1\/i=2\/i=3\/i=4:=qk;rcases this with rfl|rfl|rfl|rfl|rfl
   ·simpa [bc,h]using z
   ·simpa [bc,h]using q
   ·simpa [bc,h]using p
   ·simpa [bc,h]using o
   ·simp [bc,h]
 have f:=m.2.2;rw [b]at f;exact IA t qk g.good m.2.1 f n
def uN(k m:Int)(t:ByteArray):Nat->St
 |0=>⟨34,[(1,.aA 1 0)],[(1,[.pd (I k),.pd (I m),.pd (S t)])],[],[],[]⟩
 |1=>⟨34,[(1,.aA 1 0),(10,.pd (strs pI))],[(1,[.pd (I k),.pd (I m),.pd (S t)])],[],[],[]⟩
 |3=>⟨34,[(1,.aA 1 0),(11,.aA 11 0)],[(1,[.pd (I k),.pd (I m),.pd (S t)]),(11,xX.map .pd)],[],[],[]⟩
 |4=>⟨34,[(1,.aA 1 0),(12,.aA 1 2)],[(1,[.pd (I k),.pd (I m),.pd (S t)])],[],[],[]⟩
 |5=>⟨34,[(1,.aA 1 0),(10,.pd (strs pI)),(12,.aA 1 2)],[(1,[.pd (I k),.pd (I m),.pd (S t)])],[],[],[]⟩
 |7=>⟨34,[(1,.aA 1 0),(11,.aA 11 0),(12,.aA 1 2)],[(1,[.pd (I k),.pd (I m),.pd (S t)]),(11,xX.map .pd)],[],[],[]⟩
 |12=>⟨34,[(1,.aA 1 0),(13,.pd (S t))],[(1,[.pd (I k),.pd (I m),.pd (S t)])],[],[],[]⟩
 |13=>⟨34,[(1,.aA 1 0),(10,.pd (strs pI)),(13,.pd (S t))],[(1,[.pd (I k),.pd (I m),.pd (S t)])],[],[],[]⟩
 |15=>⟨34,[(1,.aA 1 0),(11,.aA 11 0),(13,.pd (S t))],[(1,[.pd (I k),.pd (I m),.pd (S t)]),(11,xX.map .pd)],[],[],[]⟩
 |31=>⟨34,[(1,.aA 1 0),(14,.pd (S (str (bf (bytes t)))))],[(1,[.pd (I k),.pd (I m),.pd (S t)])],[],[],[]⟩
 |63=>⟨34,[(1,.aA 1 0),(15,.pd (S (str (34::bf (bytes t)))))],[(1,[.pd (I k),.pd (I m),.pd (S t)])],[],[],[]⟩
 |127=>⟨34,[(1,.aA 1 0),(16,.pd (S (rD t)))],[(1,[.pd (I k),.pd (I m),.pd (S t)])],[],[],[]⟩
 |255=>⟨34,[(1,.aA 1 0),(16,.pd (S (rD t))),(2,.pd (S (rD t)))],[(1,[.pd (I k),.pd (I m),.pd (S t)])],[],[],[]⟩
 |_=>⟨0,[],[],[],[],[]⟩
def tW:List (Nat×Nat):=[(0,0),(0,2),(1,1),(1,2),(4,0),(4,3),(3,2),(5,1),(5,3),(12,0),(7,3),(13,1),(15,4),(31,5),(63,6),(127,7)]
def VO(k m:Int)(t:ByteArray):uN k m t 0=⟨34,[(1,.aA 1 0)],[(1,[.pd (I k),.pd (I m),.pd (S t)])],[],[],[]⟩:=rfl
def VP(k m:Int)(t:ByteArray):uN k m t 1=⟨34,[(1,.aA 1 0),(10,.pd (strs pI))],[(1,[.pd (I k),.pd (I m),.pd (S t)])],[],[],[]⟩:=rfl
def sY(k m:Int)(t:ByteArray):uN k m t 3=⟨34,[(1,.aA 1 0),(11,.aA 11 0)],[(1,[.pd (I k),.pd (I m),.pd (S t)]),(11,xX.map .pd)],[],[],[]⟩:=rfl
def VQ(k m:Int)(t:ByteArray):uN k m t 4=⟨34,[(1,.aA 1 0),(12,.aA 1 2)],[(1,[.pd (I k),.pd (I m),.pd (S t)])],[],[],[]⟩:=rfl
def Ol(k m:Int)(t:ByteArray):uN k m t 5=⟨34,[(1,.aA 1 0),(10,.pd (strs pI)),(12,.aA 1 2)],[(1,[.pd (I k),.pd (I m),.pd (S t)])],[],[],[]⟩:=rfl
def VR(k m:Int)(t:ByteArray):uN k m t 7=⟨34,[(1,.aA 1 0),(11,.aA 11 0),(12,.aA 1 2)],[(1,[.pd (I k),.pd (I m),.pd (S t)]),(11,xX.map .pd)],[],[],[]⟩:=rfl
def YE(k m:Int)(t:ByteArray):uN k m t 12=⟨34,[(1,.aA 1 0),(13,.pd (S t))],[(1,[.pd (I k),.pd (I m),.pd (S t)])],[],[],[]⟩:=rfl
def Qp(k m:Int)(t:ByteArray):uN k m t 13=⟨34,[(1,.aA 1 0),(10,.pd (strs pI)),(13,.pd (S t))],[(1,[.pd (I k),.pd (I m),.pd (S t)])],[],[],[]⟩:=rfl
def Qq(k m:Int)(t:ByteArray):uN k m t 15=⟨34,[(1,.aA 1 0),(11,.aA 11 0),(13,.pd (S t))],[(1,[.pd (I k),.pd (I m),.pd (S t)]),(11,xX.map .pd)],[],[],[]⟩:=rfl
def YF(k m:Int)(t:ByteArray):uN k m t 31=⟨34,[(1,.aA 1 0),(14,.pd (S (str (bf (bytes t)))))],[(1,[.pd (I k),.pd (I m),.pd (S t)])],[],[],[]⟩:=rfl
def YH(k m:Int)(t:ByteArray):uN k m t 63=⟨34,[(1,.aA 1 0),(15,.pd (S (str (34::bf (bytes t)))))],[(1,[.pd (I k),.pd (I m),.pd (S t)])],[],[],[]⟩:=rfl
def VT(k m:Int)(t:ByteArray):uN k m t 127=⟨34,[(1,.aA 1 0),(16,.pd (S (rD t)))],[(1,[.pd (I k),.pd (I m),.pd (S t)])],[],[],[]⟩:=rfl
def VU(k m:Int)(t:ByteArray):uN k m t 255=⟨34,[(1,.aA 1 0),(16,.pd (S (rD t))),(2,.pd (S (rD t)))],[(1,[.pd (I k),.pd (I m),.pd (S t)])],[],[],[]⟩:=rfl
def IF(v:V)(b:v.kind=1):bg aa 273 [.pd (val v)] [S (fD v)]:=by
 obtain⟨k,m,t⟩:=v;have b:k=1:=b;refine bg.mk Tryz.func273 λw G=>?_
 (refine jW (cs:=[(4,.of (pq ⟨k,m,t⟩))]) 80 _ _ ?_;simp only [go_sem])
 refine⟨λh=>?_,λh=>?_⟩
 ·have d:fD ⟨k,m,t⟩=ByteArray.empty:=by unfold fD;simp [h]
  rw [d];refine ac ?_;refine R.rW ?_;rfl
 have H:fB ⟨k,m,t⟩=true:=uu h;have i:(k==1)=true:=by simp [b]
 have e:t.size<=200:=by
  have j:=H;unfold fB at j;simp [b]at j;exact j.1
 have d:fD ⟨k,m,t⟩=rD t:=by
  unfold fD;rw [H];simp only [bS,b6,ba];rw [af b]
 rw [d];clear H h d;refine zw i ?_;refine R.to (uN k m t 0) (by simp only [VO];(simp only [go_sem]);all_goals(and_intros<;>rfl)) ?_;refine R.tD (uN k m t) tW 255 mixed qq qq qq (λh=>h) ?_ ?_
 ·unfold tW
  refine cT.2 ⟨?_,?_⟩
  ·simp only [VO,VP,d5,dy]
   refine ac ?_;exact R.o8 rfl q4
  refine cT.2 ⟨?_,?_⟩
  ·simp only [VO,VQ,d5,dy]
   refine ac ?_;exact R.o8 rfl q4
  refine cT.2 ⟨?_,?_⟩
  ·simp only [VP,sY,d5,dy]
   refine R.Qn (f:=337) (t:=11) (ds:=xX) rfl rfl rfl rfl qn rfl VN (λa w E g=>by simp only [cA,ap,ax];exact Qo w E.G _ g.good (g.slots 10)) ?_;apply ev8;simp only [go_sem,ap,ax];exact R.o8 rfl q4
  refine cT.2 ⟨?_,?_⟩
  ·simp only [VP,Ol,d5,dy]
   refine ac ?_;exact R.o8 rfl q4
  refine cT.2 ⟨?_,?_⟩
  ·simp only [VQ,Ol,d5,dy]
   refine ac ?_;exact R.o8 rfl q4
  refine cT.2 ⟨?_,?_⟩
  ·simp only [VQ,YE,d5,dy]
   refine ac ?_;exact R.o8 rfl q4
  refine cT.2 ⟨?_,?_⟩
  ·simp only [sY,VR,d5,dy]
   refine ac ?_;exact R.o8 rfl q4
  refine cT.2 ⟨?_,?_⟩
  ·simp only [Ol,VR,d5,dy]
   refine R.Qn (f:=337) (t:=11) (ds:=xX) rfl rfl rfl rfl qn rfl VN (λa w E g=>by simp only [cA,ap,ax];exact Qo w E.G _ g.good (g.slots 10)) ?_;apply ev8;simp only [go_sem,ap,ax];exact R.o8 rfl q4
  refine cT.2 ⟨?_,?_⟩
  ·simp only [Ol,Qp,d5,dy]
   refine ac ?_;exact R.o8 rfl q4
  refine cT.2 ⟨?_,?_⟩
  ·simp only [YE,Qp,d5,dy]
   refine ac ?_;exact R.o8 rfl q4
  refine cT.2 ⟨?_,?_⟩
  ·simp only [VR,Qq,d5,dy]
   refine ac ?_;exact R.o8 rfl q4
  refine cT.2 ⟨?_,?_⟩
  ·simp only [Qp,Qq,d5,dy]
   refine R.Qn (f:=337) (t:=11) (ds:=xX) rfl rfl rfl rfl qn rfl VN (λa w E g=>by simp only [cA,ap,ax];exact Qo w E.G _ g.good (g.slots 10)) ?_;apply ev8;simp only [go_sem,ap,ax];exact R.o8 rfl q4
  refine cT.2 ⟨?_,?_⟩
  ·simp only [Qq,YF,d5,dy]
   refine R.I3 (f:=338) (t:=11) (cs:=xX.map .pd) (u:=.string (str (bf (bytes t)))) rfl rfl rfl (ah qn) R5 rfl rfl (λa w E g=>by simp only [cA,ap,ax];exact ID t e g rfl (g.slots 11) (g.slots 13)) ?_;apply ev8;simp only [go_sem,St.Ei,MB,ap,ax];exact R.o8 rfl q4
  refine cT.2 ⟨?_,?_⟩
  ·simp only [YF,YH,d5,dy]
   apply ev8;simp only [go_sem,R6];refine⟨Z5 e,?_⟩;refine ac ?_;exact R.o8 rfl q4
  refine cT.2 ⟨?_,?_⟩
  ·simp only [YH,VT,d5,dy]
   apply ev8;simp only [go_sem,R7];refine⟨Z7 e,?_⟩;refine ac ?_;exact R.o8 rfl q4
  refine cT.2 ⟨?_,?_⟩
  ·simp only [VT,VU,d5,dy]
   refine ac ?_;exact R.o8 rfl q4
  exact pZ _
 ·simp only [VU]
  refine ac ?_;refine R.rW ?_;rfl
def Pc(v:V):bg aa 273 [.pd (val v)] [S (fD v)]:=by
 by_cases h:v.kind=1
 ·exact IF v h
 ·exact Iv v h
def We:aF aa 93:=λ_ _=>qq
def R8:aF aa 380:=λ_ _=>qq
def Wf:aF aa 94:=λ_ _=>qq
def iO(row:List V):List UInt8:=row.flatMap λv=>bytes (fD v)++[32]
def rowB(row:List V):ByteArray:=str (iO row)
def EA(row:List V)(v:V):iO (row++[v])=iO row++bytes (fD v)++[32]:=by simp [iO]
def EB(row:List V)(k:Nat):(iO (row.take k)).length<=(iO row).length:=by
 have:iO row=iO (row.take k)++iO (row.drop k):=by unfold iO;rw [<-gR,cK]
 rw [this,bd];omega
def ta{α:Type}{t:Nat}{x:α}:∀{l:List (Nat×α)},lk t l=some x->(t,x)∈l
 | [],h=>xc
 |(j,y)::l,h=>by
  simp only [lk]at h
  split at h
  ·rename_i e;subst e;cases h;exact bk ..
  ·exact b3 _ (ta h)
def _root_.Go.au.Seg.weak{P:Program}{w:World}{s':St}{a:Act}{df:List Deferred}(h:Seg P w G s a df)(hn:s'.n=s.n)(hl:AA s s'.slots)(ho:∀p∈s'.slots,∃d,p.2= .pd d)(hb:s'.vars=[]/\s'.rows=[]/\s'.maps=[]/\s'.gs=[]):Seg P w G s' a df where
 size:=h.size.trans hn.symm
 defers:=h.defers
 good:=h.good
 slots:=λt d ht=>by
  unfold St.get at ht
  cases e:lk t s'.slots with
  |none=>rw [e]at ht;cases ht
  |some x=>
   rw [e]at ht;simp only [Option.getD_some]at ht;subst ht;exact h.slots t d (PE hl t _ e)
 only:=λt=>by
  unfold St.get
  cases e:lk t s'.slots with
  |none=>exact .inr rfl
  |some x=>
   obtain⟨d,hd⟩:=ho (t,x) (ta e);exact .inl ⟨d,hd⟩
 bare:=hb
def _root_.Go.au.R.IH{C:Cx}{l:List Oper}{k:List KI}{o:Oper}{t:TypeId}{d:Nat}{zs:List Value}(e:o.op= .alloc t)(f:o.guard=none)(i:o.dst=some d)(b:bG C.P t=some zs)
  (next:∀a w E,aB C s a w E->wpList C.P all (fin C k) l (a.put (some d) (.pointer (some ⟨w.heap.size,0,none⟩))) (w.alloc (.cells zs.toArray t))):R C (.ops all (o::l)::k) s:=by
 intro a w E g;refine bA f λK j=>?_;obtain⟨z,G,H⟩:=yH (P:=C.P) (w:=w) b;have h:z.cells=zs.toArray:=by rw [<-H]
 unfold b5 execOp;simp only [e,Sem.run_bind,Instr.alloc,G,Result.andThen_ok,Sem.run_pure,newVar,newRow,run_newObj,ci,h,i];exact j _ _ (next a w E g)
def _root_.Go.au.R.FM{C:Cx}{l:List Oper}{k:List KI}{o:Oper}{f:FuncId}{xs:Array Operand}{t:Array TypeId}(b:o.op= .call ⟨.value (.func f),xs,t⟩)(d:o.guard=none)(i:aF C.P f)
  (next:∀a w E,aB C s a w E->ey C.P f (xs.map a.eval) w λe w'=>∃v,e= .returned v/\wpList C.P all (fin C k) l (a.put o.dst v) w'):R C (.ops all (o::l)::k) s:=by
 intro a w E g;refine bA d λK j=>?_;have H:=fJ (P:=C.P) (w:=w) i a.eval o (.func f) xs t #[] b #[] rfl;unfold b5;rw [H,fy];have:=next a w E g
 simp only [ip,mE];refine this.mono ?_;rintro e w' ⟨v,rfl,h⟩;exact j _ _ h
structure NI(w0:World)(b:Nat)(p:Value)(l:List UInt8)(w:World)(G:Pub):Prop where
 at_:wR b p (cN l) w
 pc:p= .pointer none\/p=ptr b
 low:w0.heap.size<=b
 new:∀q,vK w b q->b<=q/\∀o,¬G q o
 below:Go.RowKit.Below w0.heap.size w0 w
def NI.kept{j w:World}{G':Pub}(h:NI j b p l w G)(d:Kept false (λ_=>False) w w')(N:∀q o,G' q o->G q o\/w.heap.size<=q):NI j b p l w' G':=by
 have e:∀q,q<w.heap.size->w'.heap[q]? =w.heap[q]?:=λq H=>d.block q H (λh=>h)
 have k:∀q,vK w' b q->vK w b q:=by
  rintro q (rfl|⟨P,m,a,f⟩)
  ·exact .inl rfl
  ·rw [e b (mR h.at_)]at a;exact .inr ⟨P,m,a,f⟩
 refine⟨?_,h.pc,h.low,λq H=>⟨(h.new q (k q H)).1,λo n=>?_⟩,h.below.trans ⟨d.os,d.tape,d.output,d.size,λq H=>e q (cj H h.below.size)⟩⟩
 ·have t:=mR h.at_
  obtain⟨u,v,a,f,s⟩:=h.at_;refine⟨u,v,(e b t).trans a,?_,s⟩;refine⟨f.1,?_⟩;rcases f.2 with r|⟨g,i,C,A,z,E,x⟩
  ·exact .inl r
  ·exact .inr ⟨g,i,C,A,z,(e g (bm.1 E).1).trans E,x⟩
 ·rcases N q o n with a|a
  ·exact(h.new q (k q H)).2 o a
  ·have:=wR.block h.at_ (k q H);omega
def NI.fine{d w:World}{L:List UInt8}(h:NI d b p l w G)(t:wR b (ptr b) (cN L) w')(H:Fine b w w')(k:∀q o,G q o->q<w.heap.size):NI d b (ptr b) L w' G:=by
 have g:=mR h.at_;have i:=h.low;refine⟨t,.inr rfl,h.low,λq a=>?_,h.below.trans ⟨H.os,H.tape,H.output,H.size,λq a=>H.block q (cj a h.below.size) (λj=>by have:=(h.new q j).1;omega)⟩⟩;rcases H.next q a with e|e
 ·exact h.new q e
 ·exact⟨qk,λo f=>by have:=k q o f;omega⟩
def NI.keeps{e w:World}(h:NI e b p l w G)(f:Fine b w w')(d:∀q o,G q o->q<w.heap.size):Keeps w G w' G:=
 ⟨λ_ _ h=>h,λq o g=>gb (a:=⟨q,o,none⟩) (f.block q (d q o g) (λH=>(h.new q H).2 o g)),λq o g=>f.block q (d q o g) (λH=>(h.new q H).2 o g)⟩
def uF(l m:List UInt8):cN (l++m)=cN l++cN m:=by simp [cN]
def wR.raise{B:Nat}{bs:List Value}{w:World}(h:wR b p bs w)(H:∀q,vK w b q->B<=q):Lib.BuilderAt 183 5 B b p bs w:=by
 obtain⟨k,v,e,d,i⟩:=h;refine⟨H b (.inl rfl),v,e,⟨d.1,?_⟩,i⟩;rcases d.2 with f|⟨g,a,C,E,l,j⟩
 ·exact .inl f
 ·exact .inr ⟨g,a,C,E,H g (.inr ⟨p,v,e,by rw [E];rfl⟩),j⟩
def bc32:cN [32]=[Value.int .u8 32]:=by simp [cN]
def nmS(row:List V)(b k:Nat):St:=⟨18,[(3,.pd (.raw (ptr b))),(6,.pd (vals row)),(7,.pd (I row.length)),(8,.pd (I k))],[],[],[],[]⟩
def Z8(row:List V)(hl:row.length<=1000000000)(hb:(iO row).length<=100000000000):bg aa 351 [.pd (vals row)] [S (rowB row)]:=by
 refine bg.mk Tryz.func351 λK G0=>?_;refine R.seq ?_
 (refine aJ 4 _ _ ?_;simp only [go_sem])
 refine R.region (R.IH rfl rfl rfl uB ?_);intro a w E g;generalize r:w.heap.size=b;have O:K.heap.size<=b:=by rw [<-r];exact g.kept.size
 have Q:TB<b:=by rw [<-r];exact g.gw _ _ g.tab.1
 have i:NI K b (.pointer none) [] (w.alloc (.cells [Value.pointer none,Value.slice none 0 0].toArray 183)) E.G:=by
  have s:(w.alloc (.cells [Value.pointer none,Value.slice none 0 0].toArray 183)).heap[b]? =some (.cells #[Value.pointer none,Value.slice none 0 0] 183 (0,0)):=by rw [<-r];exact heap_alloc_new w _
  refine⟨⟨db _,.slice none 0 0,s,World.ownsRow_nil _ _ _ _,by simp [Value.ownBlock]⟩,.inl rfl,O,?_,?_⟩
  ·rintro q (rfl|⟨p',v',T,h2⟩)
   ·exact⟨a3 _,λo ho=>w8⟩
   ·rw [s]at T;cases T;cases h2
  ·have T:Go.RowKit.Below K.heap.size K w:=g.kept.Ah
   exact T.alloc T.size _
 have H:=(g.wB.keep (Keeps.of_below g.gw (bF w (.cells [Value.pointer none,Value.slice none 0 0].toArray 183)) (λ_ _ h=>h)) (λb o h=>by have:=g.gw b o h;simp;omega)).put (t:=3) (v:=ptr b) (d:=.raw (ptr b)) yd (Rd.raw _ rfl);refine R.swK (k:=[_]) rfl H ?_;simp only [St.pure,ap,ax,SV.pure];refine ac ?_;clear H;generalize w.alloc (.cells [Value.pointer none,Value.slice none 0 0].toArray 183)=w1 at i;generalize E.G=G1 at i;clear g r;refine R.loopS (λn a w=>∃k G p,n=row.length-k/\k<=row.length/\NI K b p (iO (row.take k)) w G/\Seg aa w G (nmS row b k) a []) row.length ?_ ?_
 ·intro a w E g
  refine⟨0,E.G,.pointer none,rfl,qk,i.kept g.kept (λq o h=>g.g1 q o h),g.wB.weak rfl ?_ ?_ ⟨rfl,rfl,rfl,rfl⟩⟩
  ·simp only [nmS,AA,St.qQ]
   exact⟨rfl,rfl,rfl,rfl,trivial⟩
  ·simp [nmS]
 ·rintro n a w ⟨k,G,p,rfl,hk,i,H⟩
  refine NC H ?_;unfold nmS;refine ai ?_;refine⟨λh=>?_,λh=>?_⟩
  ·have M:k<row.length:=uu h
   refine z7 M ?_;have L:iO (row.take (k+1))=iO (row.take k)++bytes (fD row[k])++[32]:=by rw [bh M,EA]
   have u:=EB row (k+1);rw [L,bd,bd]at u;have hsz:(bytes (fD row[k])).length=(fD row[k]).size:=cb;simp only [an,a9]at u;refine R.kW (Pc row[k]) rfl rfl zd ?_;simp only [go_sem];refine R.FM rfl rfl We λA w' E' f=>?_;have z:=i.kept f.kept (λq o h=>f.g1 q o h);have C:A.eval (.tmp 3)=ptr b:=aH.aC (f.slots 3);have U:A.eval (.tmp 13)= .string (fD row[k]):=aH.aC (f.slots 13);simp only [cA,ap,ax,C,U];refine(Sc b p _ (fD row[k]) w' z.pc z.at_ (by rw [Bt];omega)).mono ?_;rintro e w'' ⟨rfl,j,m⟩;have j:wR b (ptr b) (cN (iO (row.take k)++bytes (fD row[k]))) w'':=by rw [uF];exact j
   have N:=z.fine j m f.gw;have Z:=((f.wB).keep (z.keeps m f.gw) (λq o h=>cj (f.gw q o h) m.size)).kill (t:=14) yd (.tuple #[.int .i64 (fD row[k]).size,.nilIface]);refine⟨_,rfl,R.sw rfl Z ?_⟩;clear Z z i H f j m C U;simp only [St.pure,ap,ax,SV.pure];refine ac ?_;refine R.FM rfl rfl R8 λA D E' f=>?_;have z:=N.kept f.kept (λq o h=>f.g1 q o h);have C:A.eval (.tmp 3)=ptr b:=aH.aC (f.slots 3);have ec:A.eval (.const (.int .u8 32))= .int .u8 32:=rfl;simp only [cA,ap,ax,C,ec];have hlb:(cN (iO (row.take k)++bytes (fD row[k]))).length+1<=140737488355328:=by rw [Bt,bd];omega
   have hby:=OR b (ptr b) (cN (iO (row.take k)++bytes (fD row[k]))) 32 D (.inr rfl) z.at_ hlb;refine hby.mono ?_;rintro e w4 ⟨rfl,j,m⟩;have j:wR b (ptr b) (cN (iO (row.take (k+1)))) w4:=by rw [L,uF,bc32];exact j
   have asX:=z.fine j m f.gw;have Z:=((f.wB).keep (z.keeps m f.gw) (λq o h=>cj (f.gw q o h) m.size)).kill (t:=15) yd .nilIface;refine⟨_,rfl,R.sw rfl Z ?_⟩;clear Z z N f j m C;simp only [St.pure,ap,ax,SV.pure];apply ev8;simp only [go_sem,wrapN (k:=k) qk];refine R.over λA w5 E' f=>?_;refine⟨row.length-(k+1),qk,k+1,E'.G,ptr b,rfl,qk,asX.kept f.kept (λq o h=>f.g1 q o h),f.wB.weak rfl ?_ ?_ ⟨rfl,rfl,rfl,rfl⟩⟩
   ·simp only [AA,St.qQ]
    exact⟨rfl,rfl,rfl,rfl,trivial⟩
   ·simp
  ·have hge:¬k<row.length:=uu h
   rw [bi qk]at i;refine ac ?_;refine R.PG rfl λA w' E' f=>?_;have z:=i.kept f.kept (λq o h=>f.g1 q o h);refine qL (id:=0) rfl A w' (R.swK rfl f.wB ?_);clear i H;simp only [St.pure,ap,ax,SV.pure];refine ac ?_;refine R.FM rfl rfl Wf λa2 w2 E2 J=>?_;have N:=z.kept J.kept (λq o h=>J.g1 q o h);have C:a2.eval (.tmp 3)=ptr b:=aH.aC (J.slots 3);simp only [cA,ap,ax,C]
   have hB:Lib.IsBuilder 183 5 b b (cN (iO row)) w2:=by
    have:=N.at_.raise (B:=b) (λq hq=>(N.new q hq).1);rcases N.pc with hp|hp
    ·exact .inl (by rw [hp]at this;exact this)
    ·exact .inr (by rw [hp]at this;exact this)
   have P:b<=w2.heap.size:=Nat.le_of_lt (mR N.at_);refine(Tryz.Builder_String_any b b (iO row) w2 hB P).mono ?_;rintro e D ⟨rfl,l⟩
   have x:Go.au.Good D (λq o=>q=TB/\o=0):=by
    obtain⟨_,te,td,htb⟩:=J.tab;exact⟨λq o h=>by rw [h.1];exact cj Q (bz P l.size),⟨rfl,rfl⟩,te,td,(l.block TB Q).trans htb⟩
   have Wg:Seg aa D (λq o=>q=TB/\o=0) ⟨18,[],[],[],[],[]⟩ a2 []:=⟨J.size,J.defers,x,λt d h=>by simp [St.get,lk]at h,λt=>.inr rfl,rfl,rfl,rfl,rfl⟩;have Wk:=Wg.put (t:=17) qr (v:=.string (rowB row)) (d:=S (rowB row)) (Rd.raw _ rfl);refine⟨_,rfl,R.sw rfl Wk ?_⟩;simp only [St.set,up];refine ac ?_;refine R.ret λa5 w5 E5 g5=>?_;have hv:a5.tmps.getD 2 undef= .string (rowB row):=aH.aC (g5.slots 2);have UP:Go.RowKit.Below D.heap.size D w5:=g5.kept.Ah;have X:=N.below.trans (l.mono N.low);refine⟨g5.defers,.string (rowB row),?_,.string (rowB row),rfl,Rd.raw _ rfl,X.trans (UP.mono X.size)⟩;rw [iH (vs:=[.string (rowB row)]) (by show(([ResultVar.tmp 2]:List ResultVar).mapM (l9 a5.tmps)).run _ _=_;simp [l9,hv])];rfl
end Go.Proofs.Z
