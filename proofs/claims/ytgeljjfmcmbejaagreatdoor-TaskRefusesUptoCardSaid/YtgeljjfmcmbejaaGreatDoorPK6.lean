/- A part of the proof. -/
import Derived.Test.YtgeljjfmcmbejaaGreatDoorPShelf3
import Derived.Test.YtgeljjfmcmbejaaGreatDoorPLa2
set_option linter.all false
set_option linter.deprecated false
open Array renaming getD→bc
open Go.Proofs.Tryz renaming prog→aa,results291→sa
open Go.Region renaming ready→b4,wanted→dv,noSelect→iA
open Int renaming toNat_zero→cW
open List renaming isEmpty_iff→si,length_cons→an,length_nil→a9,length→aR,flatten_cons→fj,flatten_nil→re,cons_append→bE,nil_append→cg,map_eq_append_iff→B0,map_eq_cons_iff→Bu,singleton_append→Bb,filterMap_cons→lz
open Option renaming map→bB
set_option maxRecDepth 100000
set_option maxHeartbeats 4000000
namespace Go.Proofs.Z
open Go.au Go.RowKit Go.Lib
variable {sz:Nat}
def aqs:aF aa 20:=λ_ _=>qq
def aqt:aF aa 22:=λ_ _=>qq
def aqu:aF aa 23:=λ_ _=>qq
def args1{vals:Array Value}{x:Value}(H:vals.size=1)(e:vals.getD 0 undef=x):vals= #[x]:=by
 apply d6
 ·simpa using H
 ·intro i h a
  match i,h with
  |0,_=>simpa [bc,H]using e
def args2{vals:Array Value}{x y:Value}(h:vals.size=2)(E:vals.getD 0 undef=x)(e:vals.getD 1 undef=y):vals= #[x,y]:=by
 apply d6
 ·simpa using h
 ·intro i H a
  match i,H with
  |0,_=>simpa [bc,h]using E
  |1,_=>simpa [bc,h]using e
abbrev trimB(s p:ByteArray):ByteArray:=⟨(Lib.trimPrefix s.data.toList p.data.toList).toArray⟩
abbrev hasB(s p:ByteArray):Bool:=Lib.hasPrefix s.data.toList p.data.toList
def WH(s p:ByteArray):bg aa 20 [.pd (S s),.pd (S p)] [S (trimB s p),B (hasB s p)]:=by
 refine⟨aqs,λw G vals f H h=>?_⟩;have b:vals.getD 0 undef= .string s:=aH.aC (w:=w) (G:=G) (h 0 qr);have E:vals.getD 1 undef= .string p:=aH.aC (w:=w) (G:=G) (h 1 qr);rw [args2 (uu H) b E];refine(Tryz.strings_CutPrefix s p w).mono ?_;rintro e d ⟨rfl,rfl⟩;refine⟨_,rfl,⟨_,rfl,rfl,λj a=>?_⟩,Go.RowKit.Below.refl _ _⟩
 match j,a with
 |0,_=>exact .raw _ rfl
 |1,_=>exact .raw _ rfl
def tj(s:ByteArray)(c:UInt8)(w:World):Calls aa 85 #[.string s,.string ⟨#[c]⟩] w λe w'=>e= .returned (.int .i64 (Lib.index s.data.toList [c]))/\w'=w:=by
 go_enter Tryz.func85,Tryz.ntmps85
 go_wp2_with (go_at_call 130;refine(Tryz.stringslite_IndexByte s _ w).mono ?_;rintro e w' ⟨rfl,rfl⟩)
 ·go_ret
  refine⟨?_,rfl⟩;rw [show Lib.index s.data.toList [c]=0 from Lib.zero s ⟨#[c]⟩ (.inr (uu (‹([c]==s.toList)=true›)))];rfl
 ·go_ret
  refine⟨?_,rfl⟩;rw [show Lib.index s.data.toList [c]=Lib.indexByte s.data.toList c from(Lib.one s ⟨#[c]⟩ rfl).trans (congrArg (Lib.indexByte s.data.toList) (show(((c.toNat:Nat):Int)).toNat.toUInt8=c by simp))];rfl
def Vf(s:ByteArray)(c:UInt8)(w:World)(hs:s.size<4294967281):Calls aa 39 #[.string s,.string ⟨#[c]⟩] w λe w'=>e= .returned (.tuple #[.string ⟨(Lib.cut s.data.toList [c]).1.toArray⟩,.string ⟨(Lib.cut s.data.toList [c]).2.1.toArray⟩,.bool (Lib.cut s.data.toList [c]).2.2])/\∃n,w'=w.drewN n:=by
 rcases Lib.indexB_cases s ⟨#[c]⟩with hix|⟨i,hix,hroom⟩
 ·obtain⟨e1,e2,e3⟩:=Lib.cutB_miss s ⟨#[c]⟩ hix
  rw [e1,e2,e3]
  go_enter Tryz.func39,Tryz.ntmps39
  go_wp2_with (go_at_call 85;refine(tj _ _ _).mono ?_;rintro e w' ⟨rfl,rfl⟩;rw [show Lib.index s.data.toList [c]=_ from hix])
  go_ret3
  exact⟨rfl,0,rfl⟩
 ·obtain⟨e1,e2,e3⟩:=Lib.cutB_hit s ⟨#[c]⟩ i hix
  rw [e1,e2,e3];have c1:(0:Int)<=↑i:=qk;have hroom:i+1<=s.size:=hroom;have c2:(↑i:Int)<=↑s.size:=qk;have c3:(0:Int)<=↑i+1:=qk;have c4:(↑i+1:Int)<=↑s.size:=qk;have mx:=mixed;have hw:IntKind.i64.wrap (↑i+1)= ↑i+1:=wrapN (k:=i) qk;have c5:0<=IntKind.i64.wrap (↑i+1)/\IntKind.i64.wrap (↑i+1)<=↑s.size:=by rw [hw];exact⟨c3,c4⟩
  have c6:=c5.1;have c7:=c5.2
  go_enter Tryz.func39,Tryz.ntmps39
  go_wp2_with (go_at_call 85;refine(tj _ _ _).mono ?_;rintro e w' ⟨rfl,rfl⟩;rw [show Lib.index s.data.toList [c]=_ from hix])
  go_region_o
  go_wp2
  go_ret3
  exact⟨rfl,1,rfl⟩
abbrev F7(s:ByteArray):List UInt8×List UInt8×Bool:=Lib.cut s.data.toList [32]
def Ss(s:ByteArray)(hz:s.size<4294967281):bg aa 22 [.pd (S s),.pd (S ⟨#[32]⟩)] [S ⟨(F7 s).1.toArray⟩,S ⟨(F7 s).2.1.toArray⟩,B (F7 s).2.2]:=by
 refine⟨aqt,λw G vals hG hs hv=>?_⟩;have e0:vals.getD 0 undef= .string s:=aH.aC (w:=w) (G:=G) (hv 0 qr);have e1:vals.getD 1 undef= .string ⟨#[32]⟩:=aH.aC (w:=w) (G:=G) (hv 1 qr);rw [args2 (uu hs) e0 e1]
 have h:Calls aa 22 #[.string s,.string ⟨#[32]⟩] w λe w'=>e= .returned (.tuple #[.string ⟨(F7 s).1.toArray⟩,.string ⟨(F7 s).2.1.toArray⟩,.bool (F7 s).2.2])/\∃n,w'=w.drewN n:=by
  go_enter Tryz.func22,Tryz.ntmps22
  go_wp2_with (go_at_call 39;refine(Vf _ _ _ hz).mono ?_;rintro e w' ⟨rfl,n,rfl⟩)
  go_ret3
  exact⟨rfl,n,rfl⟩
 refine h.mono ?_;rintro e w' ⟨rfl,n,rfl⟩;refine⟨_,rfl,⟨_,rfl,rfl,λj hj=>?_⟩,⟨rfl,rfl,rfl,a3 _,λ_ _=>rfl⟩⟩
 match j,hj with
 |0,_=>exact .raw _ rfl
 |1,_=>exact .raw _ rfl
 |2,_=>exact .raw _ rfl
def NH(s:ByteArray)(z:s.size<4294967281)(v:Int)(h:Lib.atoiAll s.data.toList= .ok v):bg aa 23 [.pd (S s)] [I v,.raw .nilIface]:=by
 refine⟨aqu,λw G vals g d b=>?_⟩;have E:vals.getD 0 undef= .string s:=aH.aC (w:=w) (G:=G) (b 0 qr);rw [args1 (uu d) E];refine(Tryz.strconv_Atoi_ok s qk v h w).mono ?_;rintro e f ⟨rfl,a⟩;refine⟨_,rfl,⟨_,rfl,rfl,λj H=>?_⟩,?_⟩
 ·match j,H with
  |0,_=>exact .raw _ rfl
  |1,_=>exact .raw _ rfl
 ·rcases a with rfl|⟨t,rfl⟩
  ·exact Go.RowKit.Below.refl _ _
  ·exact⟨rfl,rfl,rfl,by rw [Lib.bytesWorld_size];omega,λj H=>Lib.bytesWorld_at_old _ _ _ _ H⟩
def NL(d:PD):Prop:=∃v a D p,d= .ak [I v,a,D,p]/\IQ 1 a/\IQ 1 D/\IQ 4 p
abbrev atc:QV:=λ_ res xs vars rows=>∃d,NL d/\res= .ret/\xs=[.pd d,.pd (I 0)]/\vars=[]/\rows=[]
def IQ.w{d:PD}(h:IQ sz d):d.width=1:=by rcases h with rfl|⟨l,rfl⟩<;>rfl
def IQ.c{d:PD}(h:IQ sz d):d.cells=[d]:=by rcases h with rfl|⟨l,rfl⟩<;>rfl
def IQ.c0{d:PD}(h:IQ sz d):d.cell 0=d:=by rcases h with rfl|⟨l,rfl⟩<;>rfl
def FJ(g:Gr)(k:List W)(O:RS g)(m:k.length<=400)(A:∀y∈k,setB g.n y.pos=true/\setB g.n y.neg=true)(E:bg aa 28 [.pd (pY g)] [B true])(J:bJ aa 192 [] [] [.pd (pY g)] [] [] (J5 g)):
  bJ aa 36 [] [] [.pd (pY g),.pd (ways k)] [] [] atc:=by
 have z:((0:Int) !=0)=false:=rfl;have Z:decide ((0:Int)>0)=false:=rfl;refine bJ.mk Tryz.func36 λw G T=>?_;refine ac ?_;refine R.cX [] [] [] [] rfl rfl rfl (λP u=>RV g k true O m A E J) rfl zt s3 ?_;rintro N-jv p K v rows ⟨f,X,a,x,rfl,rfl,rfl,rfl⟩;refine⟨rfl,rfl,trivial,?_⟩;refine zw z ?_;refine R.cX [] [] [] [] rfl rfl rfl (λP u=>RV g k false O m A E J) rfl zt s3 ?_;rintro YJ-M p K v rows ⟨D,U,H,n,rfl,rfl,rfl,rfl⟩;refine⟨rfl,rfl,trivial,?_⟩;have e:=a.w;have j:=a.c;have d:=H.w;have C:=H.c;have k1:=a.c0;have k2:=H.c0;rcases x with rfl|⟨L,rfl⟩
 ·skip
  rcases n with rfl|⟨l,rfl⟩
  ·apply aj;simp only [go_sem,↓reduceIte,z,e,j,d,C]
   exact R.Di (vc:=_) (xs:=[.pd (.ak [I (2),f,D,.raw (.slice none 0 0)]),.pd (I 0)]) [] [] rfl y4 (λ_ _=>⟨_,⟨_,_,_,_,rfl,a,H,.inl rfl⟩,rfl,rfl,rfl,rfl⟩) (λt s h=>xa) (λi r h=>xa) rfl rfl
  ·by_cases b:((l.length:Int)>0)
   ·have q:decide ((l.length:Int)>0)=true:=bL b
    apply aj;simp only [go_sem,↓reduceIte,z,e,j,d,C,q];refine R.hoist [1] [[0,2,3,4],[2,0,3,4]] mixed qv qv qv qr ?_;simp only [go_sem,Il,AX,pick,wQ,y8];refine⟨?_,?_⟩
    all_goals
     refine ac ?_;exact R.Di (vc:=_) (xs:=[.pd (.ak [I (1),f,D,.list 4 l]),.pd (I 0)]) [] [] rfl y4 (λ_ _=>⟨_,⟨_,_,_,_,rfl,a,H,.inr ⟨_,rfl⟩⟩,rfl,rfl,rfl,rfl⟩) (λt s h=>xa) (λi r h=>xa) rfl rfl
   ·have q:decide ((l.length:Int)>0)=false:=b7 b
    apply aj;simp only [go_sem,↓reduceIte,z,e,j,d,C,q];exact R.Di (vc:=_) (xs:=[.pd (.ak [I (2),f,D,.raw (.slice none 0 0)]),.pd (I 0)]) [] [] rfl y4 (λ_ _=>⟨_,⟨_,_,_,_,rfl,a,H,.inl rfl⟩,rfl,rfl,rfl,rfl⟩) (λt s h=>xa) (λi r h=>xa) rfl rfl
 ·by_cases o:((L.length:Int)>0)
  ·have Q:decide ((L.length:Int)>0)=true:=bL o
   apply aj;simp only [go_sem,↓reduceIte,z,e,j,d,C,Q];refine R.hoist [1] [[0,2,3,4],[2,0,3,4]] mixed qv qv qv qr ?_;simp only [go_sem,Il,AX,pick,wQ,y8];refine⟨?_,?_⟩
   all_goals
    refine ac ?_;exact R.Di (vc:=_) (xs:=[.pd (.ak [I (3),f,D,.list 4 L]),.pd (I 0)]) [] [] rfl y4 (λ_ _=>⟨_,⟨_,_,_,_,rfl,a,H,.inr ⟨_,rfl⟩⟩,rfl,rfl,rfl,rfl⟩) (λt s h=>xa) (λi r h=>xa) rfl rfl
  ·have Q:decide ((L.length:Int)>0)=false:=b7 o
   rcases n with rfl|⟨l,rfl⟩
   ·apply aj;simp only [go_sem,↓reduceIte,z,e,j,d,C,Q]
    exact R.Di (vc:=_) (xs:=[.pd (.ak [I (2),f,D,.raw (.slice none 0 0)]),.pd (I 0)]) [] [] rfl y4 (λ_ _=>⟨_,⟨_,_,_,_,rfl,a,H,.inl rfl⟩,rfl,rfl,rfl,rfl⟩) (λt s h=>xa) (λi r h=>xa) rfl rfl
   ·by_cases b:((l.length:Int)>0)
    ·have q:decide ((l.length:Int)>0)=true:=bL b
     apply aj;simp only [go_sem,↓reduceIte,z,e,j,d,C,q,Q];refine R.hoist [1] [[0,2,3,4],[2,0,3,4]] mixed qv qv qv qr ?_;simp only [go_sem,Il,AX,pick,wQ,y8];refine⟨?_,?_⟩
     all_goals
      refine ac ?_;exact R.Di (vc:=_) (xs:=[.pd (.ak [I (1),f,D,.list 4 l]),.pd (I 0)]) [] [] rfl y4 (λ_ _=>⟨_,⟨_,_,_,_,rfl,a,H,.inr ⟨_,rfl⟩⟩,rfl,rfl,rfl,rfl⟩) (λt s h=>xa) (λi r h=>xa) rfl rfl
    ·have q:decide ((l.length:Int)>0)=false:=b7 b
     apply aj;simp only [go_sem,↓reduceIte,z,e,j,d,C,q,Q];exact R.Di (vc:=_) (xs:=[.pd (.ak [I (2),f,D,.raw (.slice none 0 0)]),.pd (I 0)]) [] [] rfl y4 (λ_ _=>⟨_,⟨_,_,_,_,rfl,a,H,.inl rfl⟩,rfl,rfl,rfl,rfl⟩) (λt s h=>xa) (λi r h=>xa) rfl rfl
end Go.Proofs.Z
namespace Go.au
variable {E:Env}
inductive Pl where
 |take (i:Nat) (p:Pl)
 |alt (i:Nat) (p q:Pl)
 |no
 |done
def Pl.dep:Pl->Nat
 | .take _ p=>p.dep+1
 | .alt _ p q=>max (p.dep+1) q.dep
 |_=>0
def Pl.chk(all:Array Oper):Pl->Array Bool->Option (List Nat)->Bool
 | .take i p,L,none=>Region.free .any all L i&&(b4 .any all L).contains i&&p.chk all (L.setIfInBounds i true) none
 | .alt i p q,L,m=>(m.getD (b4 .any all L)).contains i&&p.chk all (L.setIfInBounds i true) none&&q.chk all L (some ((m.getD (b4 .any all L)).filter (· !=i)))
 | .no,_,some r=>r.isEmpty
 | .done,L,none=>(b4 .any all L).isEmpty
 |_,_,_=>false
section
variable {C:Cx}{s:St}{all:Array Oper}{k:List KI}
def Ul:Op->Bool
 | .extract _ _=>true
 | .move _=>true
 |_=>false
def ptV:SV->Bool
 | .pd (.ptr _)=>true
 | .ref _ _=>true
 |_=>false
def WI(ρ:Operand->SV):Op->Bool
 | .nilCheck x=>ptV (ρ x)
 | .fieldAddr _ x _=>ptV (ρ x)
 |_=>false
def YN{P:Program}{w:World}{row:Nat->Option Row}{x:SV}{v:Value}(H:ptV x=true)(h:Rel P w E row v x):∃b o,v= .pointer (some ⟨b,o,none⟩):=by
 cases x with
 |pd d=>cases d with
  |ptr d=>cases h with|ptr _ b o s _ _ _=>exact⟨b,o,rfl⟩
  |_=>cases H
 |ref d o=>obtain⟨b,e,rfl,_⟩:=h;exact⟨b,e+o,rfl⟩
 |_=>cases H
def FL{a:Act}{w:World}{o:Oper}(g:aB C s a w E)(m:o.guard=none)(H:WI (aO s) o.op=true){vc:Prop}{v:SV}(h:ay C.P (aO s) s.var s.row o.op=some (vc,v))(G:vc):∃u,Yields C.P all o u a/\Rel C.P w E s.row u v:=by
 obtain⟨D,op,T,p,after,guard⟩:=o;simp only at m H h
 cases op with
 |nilCheck x=>
  obtain⟨b,o,e⟩:=YN H (aT g x);simp only [ay]at h;obtain⟨z,r⟩:=Lp (P:=C.P) (w:=w) (E:=E) h (aT g x) a.eval x rfl ⟨D,.nilCheck x,T,p,after,guard⟩ rfl;exact⟨a.eval x,.inl ⟨by simp [dv,m],λj=>by simp [execOp,e]⟩,r⟩
 |fieldAddr t x f=>
  obtain⟨b,o,e⟩:=YN H (aT g x);simp only [ay]at h;have l:=aT g x;obtain⟨u,z,r⟩:=xG h G l;refine⟨u,.inl ⟨by simp [dv,m],λj=>?_⟩,r⟩;unfold qh at h
  split at h
  ·rename_i off M K
   obtain⟨N,A,L,n,rfl,rfl⟩:=EG K
   have J:aP C.P A.type≠0:=by
    simp only [WI]at H
    revert h
    cases k:aO s x with
    |pd q=>cases q<;>rw [k]at H<;>first|(cases H;done)|(intro h;cases h;exact G)
    |ref d o=>intro h;cases h;exact G
    |_=>rw [k]at H;cases H
   have i:∀j,(Instr.fieldAt t (.pointer (some ⟨b,o,none⟩)) f).run C.P j= .ok (.pointer (some ⟨b,o+A.offset,none⟩)) j:=by
    intro j;simp [Instr.fieldAt,run_underlying L,n,Instr.sureAddr,fieldPlace,jf J,J,addr_add]
   have:u= .pointer (some ⟨b,o+A.offset,none⟩):=by
    rw [e,i w]at z
    cases z;rfl
   rw [this];simp [execOp,e,i]
  ·cases h
 |_=>cases H
def C0{a:Act}{w:World}{o:Oper}(g:aB C s a w E)(b:o.guard=none)(l:Ul o.op=true){vc:Prop}{v:SV}(h:ay C.P (aO s) s.var s.row o.op=some (vc,v))(A:vc):∃u,Yields C.P all o u a/\Rel C.P w E s.row u v:=by
 obtain⟨D,op,t,p,after,guard⟩:=o
 cases op with
 |move x=>
  simp only [ay,bo,dz]at h;obtain⟨_,rfl⟩:=h;exact⟨a.eval x,.inl ⟨by simp only at b;simp [dv,b],λk=>rfl⟩,aT g x⟩
 |extract x i=>
  simp only [ay]at h
  split at h
  ·rename_i n d
   cases h
   have j:=aT g x;rw [d]at j;obtain⟨f,e,m,r⟩:=j;have H:i<f.size:=qk;have:=r i A;refine⟨f[i],.inl ⟨by simp only at b;simp [dv,b],λk=>by simp [execOp,e,Instr.extract,H]⟩,?_⟩;simpa [bc,H,Rel]using this
  ·cases h
 |_=>cases l
def wU(C:Cx)(all:Array Oper)(k:List KI)(J:Pl->St->Prop):Pl->St->Prop
 | .take i p,s=>match all[i]? with
  |some o=>match ay C.P (aO s) s.var s.row o.op with
   |some x=>x.1/\(o.guard=none/\((Ul o.op=true/\x.2.unbox=x.2)\/(WI (aO s) o.op=true/\x.2.unbox=x.2)\/(y8 o.op=true/\(o.op.operands.toList.all λx=>wQ s.row (aO s x))=true/\wQ s.row x.2=true)))/\dN s o/\wU C all k J p (s.put o.dst x.2)
   |none=>False
  |none=>False
 | .alt i p q,s=>(match all[i]? with
  |some o=>match o.guard,ay C.P (aO s) s.var s.row o.op with
   |none,some x=>x.1/\dN s o/\wU C all k J p (s.put o.dst x.2.unbox)
   |_,_=>R C (.ops all [o] :: .aU (J p)::k) s
  |none=>False)/\wU C all k J q s
 | .no,_=>True
 | .done,s=>R C k s
def ph(C:Cx)(all:Array Oper)(k:List KI)(p:Pl)(s:St):Prop:=∀(L:Array Bool) (m:Option (List Nat)),p.chk all L m=true->∀n,p.dep<=n->∀a w E,aB C s a w E->
  (m=none->wpAny C.P .any all (fin C k) n L a w)/\∀r,m=some r->∀N,n=N+1->∀i∈r,wpOp C.P all (fin C k) i (wpAny C.P .any all (fin C k) N (L.setIfInBounds i true)) a w
def J6(Z:iA all=true)(H:∀c a w d v,C.post (.panic c) (Act.put a d v) w->C.post (.panic c) a w){J:Pl->St->Prop}(f:∀p s,J p s->ph C all k p s):∀(p:Pl) (L:Array Bool) (m:Option (List Nat)) (s:St),p.chk all L m=true->wU C all k J p s->∀n,p.dep<=n->∀a w E,aB C s a w E->
  (m=none->wpAny C.P .any all (fin C k) n L a w)/\∀r,m=some r->∀N,n=N+1->∀i∈r,wpOp C.P all (fin C k) i (wpAny C.P .any all (fin C k) N (L.setIfInBounds i true)) a w
 | .take i p,L,m,s,b,h,n,hn,a,w,E,g=>by
  cases m with
  |some r=>simp [Pl.chk]at b
  |none=>
   simp only [Pl.chk,bj]at b;refine⟨λ_=>?_,nofun⟩;simp only [wU]at h
   split at h
   ·rename_i o ho
    split at h
    ·rename_i x Q
     obtain⟨l,⟨X,A⟩,h6,h7⟩:=h
     have hnb:∀P,x.2≠.box P:=by
      rcases A with⟨_,z⟩|⟨_,z⟩|⟨_,_,z⟩
      ·exactλP=>z▸qM _ P
      ·exactλP=>z▸qM _ P
      ·exactλP e=>by rw [e]at z;cases z
     obtain⟨u,hy,hr⟩:∃u,Yields C.P all o u a/\Rel C.P w E s.row u x.2:=by
      rcases A with⟨A,_⟩|⟨A,_⟩|⟨A,h4,z⟩
      ·exact C0 g X A (vc:=x.1) (v:=x.2) (by rw [Q]) l
      ·exact FL g X A (vc:=x.1) (v:=x.2) (by rw [Q]) l
      ·exact Ri (all:=all) g X A (λy hy=>aM.1 h4 y (uu hy)) (vc:=x.1) (v:=x.2) (by rw [Q]) l z
     cases n with
     |zero=>simp [Pl.dep]at hn
     |succ n=>
      refine wpAny_take ho Z b.1.1 b.1.2 (λc a w hq=>jL a w (H c a w o.dst u (vJ hq)) k) hy ?_;exact(J6 Z H f p _ none _ b.2 h7 n wt _ w E (g.eY (ah h6) hr hnb)).1 rfl
    ·exact h.elim
   ·exact h.elim
 | .alt i p q,L,m,s,b,h,n,hn,a,w,E,g=>by
  simp only [Pl.chk,bj]at b;simp only [wU]at h;obtain⟨⟨U,hc1⟩,hc2⟩:=b;obtain⟨l,X⟩:=h
  have D:∀N,n=N+1->wpOp C.P all (fin C k) i (wpAny C.P .any all (fin C k) N (L.setIfInBounds i true)) a w:=by
   intro N en
   split at l
   ·rename_i o ho
    have T:∀K:St->Prop,(∀O,K O->ph C all k p O)->∀st,R C (.ops all [o] :: .aU K::k) st->∀a w E,aB C st a w E->wpOp C.P all (fin C k) i (wpAny C.P .any all (fin C k) N (L.setIfInBounds i true)) a w:=λK hK st hR a w E g=>
     wpOp_mono (λa' w' ⟨O,E',hJ,g'⟩=>(hK O hJ _ none hc1 N wt a' w' E' g').1 rfl) (R.ol ho hR g)
    split at l
    ·rename_i x hg Q
     obtain⟨k1,k2,k3⟩:=l;refine T (wU C all k J p) (λO h' L m b=>J6 Z H f p L m O b h') s ?_ a w E g;refine R.uh hg (ah k2) (qM _) (λa w E g=>?_) (λa w E g=>(R.aU k3:R C (.aU (wU C all k J p)::k) _) a w E g);obtain⟨u,hu,hr⟩:=Y0 g (λx _=>aT g x) (vc:=x.1) (v:=x.2) (by rw [Q]) k1;exact⟨u,hu,hr.unbox⟩
    ·exact T (J p) (f p) s l a w E g
   ·exact l.elim
  have G:∀r:List Nat,(∀j∈r,j=i\/j∈r.filter (· !=i)):=λr j M=>by
   by_cases e:j=i
   ·exact .inl e
   ·exact .inr (cG.2 ⟨M,iX.2 e⟩)
  have hq:=(J6 Z H f q L _ s hc2 X n wt a w E g).2 _ rfl;have hn0:∃N,n=N+1:=⟨n-1,wt⟩;obtain⟨N,en⟩:=hn0
  have t:∀r,r=m.getD (b4 .any all L)->∀j∈r,wpOp C.P all (fin C k) j (wpAny C.P .any all (fin C k) N (L.setIfInBounds j true)) a w:=λr er j M=>by
   subst er;rcases G _ j M with rfl|M
   ·exact D N en
   ·exact hq N en j M
  refine⟨λem=>?_,λr em n2 en2 j M=>?_⟩
  ·subst em en
   refine⟨λh0=>?_,t _ rfl⟩;rw [Option.getD_none,h0]at U;simp at U
  ·subst em
   obtain rfl:n2=N:=qk;exact t r rfl j M
 | .no,L,m,s,b,h,n,hn,a,w,E,g=>by
  cases m with
  |none=>simp [Pl.chk]at b
  |some r=>
   simp only [Pl.chk,si]at b;subst b;exact⟨nofun,λr er N _ i hi=>by cases er;cases hi⟩
 | .done,L,m,s,b,h,n,hn,a,w,E,g=>by
  cases m with
  |some r=>simp [Pl.chk]at b
  |none=>
   simp only [Pl.chk,si]at b;exact⟨λ_=>wpAny_done b (h a w E g) n,nofun⟩
def evN(C:Cx)(all:Array Oper)(k:List KI):Nat->Pl->St->Prop
 |0=>λ_ _=>False
 |n+1=>wU C all k (evN C all k n)
def R.YO{n:Nat}{p:Pl}{K:List KI}(h:wU C all k (evN C all k n) p s):R C (.aU (evN C all k (n+1) p)::K) s:=R.aU h
def tk(b:iA all=true)(H:∀c a w d v,C.post (.panic c) (Act.put a d v) w->C.post (.panic c) a w):∀n p s,evN C all k n p s->ph C all k p s
 |0,_,_,h=>h.elim
 |n+1,p,s,h=>λL m e=>J6 b H (λp s h=>tk b H n p s h) p L m s e h
def R.plan{id:Nat}(p:Pl)(hm:C.P.follows .mixedOrders=true)(b:iA all=true)(f:p.chk all (Array.replicate all.size false) none=true)(e:decide (p.dep<=all.size)=true)(h:wU C all k (evN C all k 60) p s)
  (H:∀c a w d v,C.post (.panic c) (Act.put a d v) w->C.post (.panic c) a w:=by intro _ _ _ d _ h;cases d<;>exact h):R C (.code (.region id all true)::k) s:=λ_ _ _ g=>
 wp_region_any hm ((tk b H 61 p s h _ none f _ (fN e) _ _ _ g.drew).1 rfl)
end
end Go.au
namespace Go.Proofs.Z
open Go.au
variable {b r t d:Nat}{x:Operand}{p:ByteArray×Ans}{cur:Option Value}{all:Array Oper}{D:List ByteArray}
def NN(g:Gr)(s:List W)(O:RS g)(H:s.length<=400)(e:∀y∈s,setB g.n y.pos=true/\setB g.n y.neg=true)(i:bg aa 28 [.pd (pY g)] [B true])(C:bJ aa 192 [] [] [.pd (pY g)] [] [] (J5 g)):
  bg aa 36 [.pd (pY g),.pd (ways s)] [.ak [.unk,.unk,.unk,.unk],I 0]:=
 (FJ g s O H e i C).toW (by
  rintro k r x a rows ⟨d,⟨v,b,D,p,rfl,n,m,l⟩,rfl,rfl,rfl,rfl⟩;refine⟨rfl,[.ak [I v,b,D,p],I 0],rfl,rfl,λw G u j f h=>?_⟩
  match j,f with
  |0,_=>exact aH.Dv (ds:=[I v,b,D,p]) h
  |1,_=>exact h)
abbrev tkD(t:Tk):PD:=.ak [H6 t.m.tl,t.m.o 0,t.m.o 1,t.m.o 2,t.m.o 3,t.m.o 4,.list 9 (t.m.qs.map AZ),t.m.o 5,t.m.o 6,t.m.o 7,iC t.m.fs,I t.m.g.n,ints t.m.g.cost,lls t.m.g.edges,t.m.o 8,t.m.o 9,I t.q,PZ t.A,.unk,.unk,.unk,.raw (.slice none 0 0)]
structure YP(t:Tk):Prop where
 g:RS t.m.g
 w:∀a∈t.A,a.ways.length<=400/\∀y∈a.ways,setB t.m.g.n y.pos=true/\setB t.m.g.n y.neg=true
 v:bg aa 28 [.pd (pY t.m.g)] [B true]
 c:bJ aa 192 [] [] [.pd (pY t.m.g)] [] [] (J5 t.m.g)
def FN(t:Tk)(row:Nat)(H:row<t.A.length)(f:YP t):bg aa 31 [.pd (.ptr (tkD t)),.pd (I row)] [.ak [vals t.A[row].row,.unk,.unk,.unk,.unk]]:=by
 obtain⟨m,q,A,D,s⟩:=t;simp only at H⊢;obtain⟨O,d,e,C⟩:=f;simp only at O d e C;obtain⟨a,b⟩:∃a,A[row]=a:=⟨_,rfl⟩;have h:=d a (b▸am H);have z:((0:Int)==0)=true:=rfl;refine bg.mk Tryz.func31 λw G=>?_;refine z8 H b ?_;refine R.plan (.take 0 (.take 1 (.take 2 (.take 3 (.take 5 (.alt 4 (.alt 6 (.alt 7 (.take 8 (.take 9 (.take 10 (.alt 11 (.alt 12 (.alt 13 .done .no) .no) .no)))) (.alt 11 (.alt 7 (.take 8 (.take 9 (.take 10 (.alt 12 (.alt 13 .done .no) .no)))) .no) .no)) (.alt 11 (.alt 6 (.alt 7 (.take 8 (.take 9 (.take 10 (.alt 12 (.alt 13 .done .no) .no)))) .no) .no) .no)) (.alt 6 (.alt 4 (.alt 7 (.take 8 (.take 9 (.take 10 (.alt 11 (.alt 12 (.alt 13 .done .no) .no) .no)))) (.alt 11 (.alt 7 (.take 8 (.take 9 (.take 10 (.alt 12 (.alt 13 .done .no) .no)))) .no) .no)) (.alt 11 (.alt 4 (.alt 7 (.take 8 (.take 9 (.take 10 (.alt 12 (.alt 13 .done .no) .no)))) .no) .no) .no)) (.alt 11 (.alt 4 (.alt 6 (.alt 7 (.take 8 (.take 9 (.take 10 (.alt 12 (.alt 13 .done .no) .no)))) .no) .no) (.alt 6 (.alt 4 (.alt 7 (.take 8 (.take 9 (.take 10 (.alt 12 (.alt 13 .done .no) .no)))) .no) .no) .no)) .no)))))))) mixed qv qv qv ?_;simp only [go_sem,wU,wQ,y8,Ul,WI,ptV]
 repeat' (first|exact trivial|apply And.intro|(refine R.kW (NN m.g a.ways O h.1 h.2 e C) rfl rfl ze ?_;(refine ev8 ?_;simp only [go_sem]);(refine R.YO ?_;simp only [go_sem,wU,wQ,y8,Ul,WI]))|((refine ev8 ?_;simp only [go_sem]);(refine R.YO ?_;simp only [go_sem,wU])))
 all_goals(refine ev8 ?_;simp only [go_sem,z])
 all_goals(refine aj ?_;simp only [go_sem,↓reduceIte])
 all_goals exact R.oj (vc:=_) rfl (by simp [wT,Zh])
def ME:aF aa 30:=λ_ _=>qq
def aqx:aF aa 59:=λ_ _=>qq
def f30(t:Nat):Nat:=if t=1 then 20103 else t
def g30(t:Nat):Nat:=if t=20103 then 1 else t
def NO(b:Nat)(t:Tk)(r:Row):
  bJ aa 30 [(20101,b)] [] [.aA 20101 0] [(20101,dV t)] [(20102,r)]
   (λ_ res xs vars rows=>res= .ret/\xs=[.clo 59 [20103]]/\vars=[(20101,dV t),(20103,[.aA 20101 0])]/\rows=[(20102,r)]):=by
 refine bJ.mk Tryz.func30 λw G a=>?_;refine ac ?_;refine qa ?_;refine R.Ij f30 g30 rfl (MI rfl) ?_;simp only [go_sem,f30];refine R.rX [(20101,dV t),(20103,[.aA 20101 0])] [(20102,r)] [.clo 59 [20103]] ?_;exactλ_ _=>⟨rfl,rfl,rfl,rfl⟩
abbrev rowT(L:List PD):Row:=⟨82,5,L⟩
abbrev tkV(t:Tk)(d:Nat):List (Nat×List SV):=[(20101,dV {t with dec:=d}),(20103,[.aA 20101 0])]
def Bv(t:Tk)(d:Nat)(L:List PD):Prop:=L.length=d/\∀i,i<L.length->L.getD i (.ak [])=Dv 5
def ItQ(t:Tk)(stop:Int->Bool)(b:Bool)(vars:List (Nat×List SV))(rows:List (Nat×Row)):Prop:=
 ∃d L,vars=tkV t d/\rows=[(20102,rowT L)]/\Bv t d L/\t.dec<=d/\d<=t.A.length/\(∀j:Nat,t.dec<j->j<d->stop j=false)/\
  if b then t.dec<d/\stop d=true else d=t.A.length/\(t.dec<d->stop d=false)
def K1(t:Tk)(row:Nat)(H:row<t.A.length)(A:YP t):bg aa 31 [.pd (.ptr (tkD t)),.pd (I row)] [Dv 5]:=
 (FN t row H A).le rfl λw G v j a h=>by
  obtain rfl:j=0:=uu a;exact aH.Dv (ds:=[vals t.A[row].row,.unk,.unk,.unk,.unk]) h
def CvA(var:Nat->Option (List SV))(row:Nat->Option Row):List SV->List PD->Prop
 |x::X,d::D=>Cv var row x d/\CvA var row X D
 |_,[]=>True
 | [],_::_=>False
def CvA.get{var:Nat->Option (List SV)}{row:Nat->Option Row}:∀{xs:List SV} {ds:List PD},CvA var row xs ds->∀j,j<ds.length->Cv var row (xs.getD j .dead) (ds.getD j (.ak []))
 |x::xs,d::ds,h,0,_=>h.1
 |x::xs,d::ds,h,j+1,hj=>by have:=h.2.get j (uu hj);simpa using this
 | [],_::_,h,_,_=>h.elim
 |_,[],_,j,hj=>vq
def FO(b1 b2:Nat)(t:Tk)(L:List PD)(stop:Int->Bool)(O:Bv t t.dec L)(N:t.dec<=t.A.length)(T:t.A.length<=1000000000)(g:YP t):
  ItV aa 59 [(20101,b1),(20103,b2)] [] [.aA 20103 0] (tkV t t.dec) [(20102,rowT L)] stop (ItQ t stop):=by
 refine ItV.mk Tryz.func59 rfl aqx (by simp [Tryz.ntmps59]) λw G rb r dd P gY Q H u X C Z U=>?_;subst Z;obtain⟨m,q,A,D,a⟩:=t;simp only at O N T g⊢;refine ac ?_;refine R.og (λ(p:Nat×List PD) s=>{St.lp [0,1] [] [20103] [(20101,dV ⟨m,q,A,p.1,a⟩)] [] [(20102,rowT p.2)] s with maps:=two r P dd Q}) (λ(p:Nat×List PD)=>Bv ⟨m,q,A,D,a⟩ p.1 p.2/\D<=p.1/\p.1<=A.length/\∀j:Nat,D<j->j<=p.1->stop j=false) (λ(p:Nat×List PD)=>A.length-p.1) ((D,L)) (⟨O,qr,N,λj z o=>by simp only at o;omega⟩) (by(simp only [go_sem,H,ba]);all_goals(and_intros<;>first|rfl|simp)) ?_;rintro⟨d,M⟩ ⟨e,z,o,n⟩;simp only at e z o n⊢;refine ac ?_;refine R.dA 9 80 mixed qv ?_;simp only [go_sem];refine ac ?_;refine⟨λh=>?_,λh=>?_⟩
 ·have v:d<A.length:=uu h
  refine ac ?_;refine R.dA 9 80 mixed qv ?_;simp only [go_sem];refine z5 e.1 ?_;refine R.clr 16 ?_;simp only [go_sem];refine R.qU [20102] [none,none,none,none,some 20102,none,none,none,none,none,none,none,some 20102] 60 mixed (show ug _ 13=true by decide+kernel) qv (λq hq=>x8) ?_;simp only [go_sem,jq,jl,SV.aY,dw,SV.hard,iq,an,a9,Nat.reduceAdd,List.zip_cons_cons,List.zip_nil_left];refine gU.sN (r:=rowT M) qr rfl rfl rfl rfl qn rfl rfl qr rfl rfl wj wz ?_;refine gy 60 _ _ ?_;simp only [go_sem,jq,jl,SV.aY,dw,SV.hard,iq,St.chain,an,a9,Nat.reduceAdd];refine gU.kW rfl (K1 ⟨m,q,A,d,a⟩ d v ⟨g.g,g.w,g.v,g.c⟩) rfl rfl (b:=true||(false||false)) (.cons (.ptr 20101 _ (tkD ⟨m,q,A,d,a⟩) rfl (a3 22) (CvA.get (ds:=(tkD ⟨m,q,A,d,a⟩).cells) ?_)) zd) (λ_=>rfl) qn ?_
  ·exact⟨.pd _,.pd _,.pd _,.pd _,.pd _,.pd _,.pd _,.pd _,.pd _,.pd _,.pd _,.pd _,.pd _,.pd _,.pd _,.pd _,.pd _,.pd _,.unk _,.unk _,.unk _,.pd _,trivial⟩
  refine gy 60 _ _ ?_;simp only [go_sem,jq];refine⟨rfl,?_⟩;refine gU.append (r:=rowT M) (es:=[Dv 5]) qr rfl rfl rfl qn rfl rfl rfl rfl oy rfl Zh qr (congrArg (bB aR) oi) rfl (λi hi=>vi) (by show _*iQ aa 82<=_;rw [oe];simp only [e.1,an,a9];omega) (by simp only [maxLen,e.1,an,a9];omega) ?_;refine gy 60 _ _ ?_;simp only [go_sem,jq,SV.aY,bn,St.chain]
  (refine aJ 15 _ _ ?_;simp only [go_sem,wrapN (k:=d) qk])
  have f:Bv ⟨m,q,A,D,a⟩ (d+1) (M++[Dv 5]):=by
   refine⟨by simp [e.1],λi hi=>?_⟩;simp only [ag]
   by_cases hid:i<M.length
   ·rw [cv hid];have:=e.2 i hid;simpa [ag]using this
   ·have:i=M.length:=by simp at hi;omega
    subst this;simp
  refine R.seq (R.VW (xY _ _ ?_));simp only [go_sem,FP];refine Bc.yield (stop:=stop) rfl rfl qn rfl rfl rfl H X u U ?_
  cases J:stop ((d+1:Nat):Int)
  ·refine xY _ _ ?_
   simp only [go_sem,FP,cH,bS,↓reduceIte];refine ac ?_;refine R.skip (R.inBlock ?_)
   have h4:∀j:Nat,D<j->j<=d+1->stop j=false:=λj K E=>by
    rcases cn j (d+1)with k|k
    ·exact n j K qk
    ·obtain rfl:j=d+1:=qk
     exact J
   refine R.fE (d+1,M++[Dv 5]) ⟨f,q6,q6,h4⟩ (l:=by(simp only [go_sem,H,ba]);all_goals(and_intros<;>first|rfl))
  ·refine xY _ _ ?_
   simp only [go_sem,FP,cH,bS,↓reduceIte];refine ar ?_;refine R.rI true (tkV ⟨m,q,A,D,a⟩ (d+1)) [(20102,rowT (M++[Dv 5]))] rfl ⟨d+1,_,rfl,rfl,f,q6,q6,λj K E=>n j K qk,by simp only [↓reduceIte];exact⟨qk,J⟩⟩ rfl ⟨rfl,rfl,trivial⟩ ⟨rfl,trivial⟩ rfl
 ·have x:d=A.length:=by have:¬d<A.length:=by simpa using h
                        omega
  refine ac ?_;refine R.oI false (tkV ⟨m,q,A,D,a⟩ d) [(20102,rowT M)] rfl ⟨d,_,rfl,rfl,e,z,o,λj K E=>n j K qk,by simp only [b6,ba];exact⟨x,λk=>n d k (a3 _)⟩⟩ rfl ⟨rfl,rfl,trivial⟩ ⟨rfl,trivial⟩ rfl
def CJ:aF aa 13:=λ_ _=>qq
def oG(t:Tk)(n:Int):Nat:=if t.stop then t.dec else if n<1 then t.dec else min t.A.length (t.dec+n.toNat)
def wV(t:Tk)(n:Int):Int×Int:=if t.stop then(0,22)else if n<1 then(0,1)else((t.A.length:Int)-(oG t n:Nat),0)
def step_ok(b:Nat)(t:Tk)(L:List PD)(n:Int)(hL:Bv t t.dec L)(hd:t.dec<=t.A.length)(hn:t.A.length<=1000000000)(hA:YP t):
  bJ aa 13 [(20101,b)] [] [.aA 20101 0,.pd (I n)] [(20101,dV t)] [(20102,rowT L)]
   (λ_ res xs vars rows=>res= .ret/\xs=[.pd (I (wV t n).1),.pd (I (wV t n).2)]/\∃L',vars=[(20101,dV {t with dec:=oG t n})]/\rows=[(20102,rowT L')]/\Bv t (oG t n) L'):=by
 refine bJ.mkM Tryz.func13 rfl CJ (by simp [Tryz.ntmps13]) λw G rb=>?_;have z0:((0:Int) !=0)=false:=rfl;have z1:((22:Int) !=0)=true:=rfl;refine ac ?_;refine R.cX [(20101,dV t)] [(20102,rowT L)] [] [] rfl rfl rfl (λP hvb=>FI (P 20101) t (rowT L)) rfl zp JR ?_;rintro jv-dn res ys vars rows ⟨rfl,rfl,rfl,rfl⟩;refine⟨rfl,rfl,trivial,?_⟩;obtain⟨m,q,A,dec,U⟩:=t;simp only at hL hd hn hA
 cases U
 ·refine z5 z0 ?_
  refine ar ?_
  by_cases f:n<1
  ·rw [af (uu f)]
   have e1:oG ⟨m,q,A,dec,false⟩ n=dec:=by simp [oG,f]
   have e2:wV ⟨m,q,A,dec,false⟩ n=(0,1):=by simp [wV,f]
   refine R.rVM [(20101,dV ⟨m,q,A,dec,false⟩)] [(20102,rowT L)] [.pd (I 0),.pd (I 1)] rfl (λ_ _=>⟨rfl,by rw [e2],L,by rw [e1],rfl,by rw [e1];exact hL⟩) ⟨rfl,trivial⟩ ⟨rfl,trivial⟩ rfl rfl
  rw [ae (uu f)];refine R.cX [(20101,dV ⟨m,q,A,dec,false⟩)] [(20102,rowT L)] [20103] [] rfl rfl rfl (λP hvb=>NO (P 20101) ⟨m,q,A,dec,false⟩ (rowT L)) rfl zp ME ?_;rintro YJ-dn res ys vars rows ⟨rfl,rfl,rfl,rfl⟩;refine⟨rfl,rfl,trivial,?_⟩;refine ac ?_;refine R.R9 (stop:=λi=>IntKind.i64.wrap (i-dec)==n) (Q:=ItQ ⟨m,q,A,dec,false⟩ λi=>IntKind.i64.wrap (i-dec)==n) (aW:=tkV ⟨m,q,A,dec,false⟩ dec) (bH:=[(20102,rowT L)]) (pn:=[]) (caps:=[20103]) rfl rfl rfl rfl [] rfl (λP _=>FO (P 20101) (P 20103) ⟨m,q,A,dec,false⟩ L _ hL hd hn hA) (Has.lk ⟨rfl,rfl,trivial⟩) (Has.lk ⟨rfl,trivial⟩) qr (λ_ _=>rfl) ?_ ?_
  ·intro a o E fn g W i hK M
   refine⟨fn,_,_,_,run_yield M rfl,roundIn_of_wpIn trivial ?_⟩
   have l:∀(t:Nat) (z:Int),Go.au.lk t [(20101,dV ⟨m,q,A,dec,false⟩),(20103,[.aA 20101 0]),(3,[.pd (I n)]),(7,[.pd (I dec)])]=some [.pd (I z)]->t≠20101->t≠20103->∀x,(Go.au.setB W (o.heap.size+1) x).cell? ⟨E.vb t,0,none⟩=some (.int .i64 z):=by
    intro t z C ht1 ht2 x;obtain⟨J,e,hm,hsz,hr⟩:=g.vars t _ C;have N:E.vb t<o.heap.size:=(bm.1 hm.2.2).1
    have hW:W.heap[E.vb t]? =some (.cells J e (0,0)):=(hK.block _ N (by
     rintro(⟨t',H⟩|⟨i',p,k1,k2,k3⟩)
     ·have:t'=20101\/t'=20103:=by
       simp only [keys,ap,ax,Go.au.lk]at H
       split at H
       ·rename_i e;exact .inl e.symm
       ·split at H
        ·rename_i e;exact .inr e.symm
        ·cases H
      rcases this with rfl|rfl
      ·exact ht1 (g.vv _ _ _ _ C rfl (by simpa [keys,Go.au.lk]using H.symm))
      ·exact ht2 (g.vv _ _ _ _ C rfl (by simpa [keys,Go.au.lk]using H.symm))
     ·have:i'=20102:=by simpa [keys]using k1
      subst this;exact g.vr _ _ _ _ _ C rfl k2 k3.symm)).trans hm.2.2
    have hW2:(Go.au.setB W (o.heap.size+1) x).heap[E.vb t]? =some (.cells J e (0,0)):=by rw [Go.au.dU qk];exact hW
    have h0:=(hr 0 qr).2;have h1:J.getD 0 undef= .int .i64 z:=aH.aC (w:=o) (G:=E.G) h0
    have hs1:0<J.size:=by
     have:=hsz.1;simp only [an,a9]at this;omega
    rw [Go.cell_of_row _ _ _ _ _ _ hW2];simpa [bc,hs1]using h1
   have ev:∀(x:Act) (d:Nat) (v:Value) (j:Nat),x.tmps.size=38->d<38->(x.put (some d) v).eval (.tmp j)=if j=d then v else x.eval (.tmp j):=λx d v j h1 h2=>dF x d v j qk
   have sz:∀(x:Act) (d:Nat) (v:Value),(x.put (some d) v).tmps.size=x.tmps.size:=λx d v=>ud;have ha0:a.tmps.size=38:=g.size;have e3:a.eval (.tmp 3)= .pointer (some ⟨E.vb 3,0,none⟩):=g.slots 3;have e7:a.eval (.tmp 7)= .pointer (some ⟨E.vb 7,0,none⟩):=g.slots 7;have eA:(⟨(((#[22]:Array Nat).zip #[Value.int .i64 i]).foldl (λT (t,a)=>T.setIfInBounds t a) a.tmps),[]⟩:Act)=({a with defers:=[]}:Act).put (some 22) (.int .i64 i):=ud;rw [eA];refine wpIn_region_list (Bf (λ_=>trivial) rfl (λ_ h=>xa) (VX rfl) ?_);refine⟨_,run_beginRound M rfl,?_⟩
   let k:Act:=(({a with defers:=[]}:Act).put (some 22) (.int .i64 i)).put (some 8) ((({a with defers:=[]}:Act).put (some 22) (.int .i64 i)).eval (.tmp 22))
   have s:k.tmps.size=38:=by simp only [k,sz];exact ha0
   have f8:k.eval (.tmp 8)= .int .i64 i:=by
    simp only [k];rw [ev _ _ _ _ yb qk,af rfl,ev {a with defers:=[]} _ _ _ ha0 qk,af rfl]
   have f3:k.eval (.tmp 3)= .pointer (some ⟨E.vb 3,0,none⟩):=by
    simp only [k];rw [ev _ _ _ _ yb qk,ae qk,ev {a with defers:=[]} _ _ _ ha0 qk,ae qk];exact e3
   have f7:k.eval (.tmp 7)= .pointer (some ⟨E.vb 7,0,none⟩):=by
    simp only [k];rw [ev _ _ _ _ yb qk,ae qk,ev {a with defers:=[]} _ _ _ ha0 qk,ae qk];exact e7
   show Code.wpIn _ _ _ _ _ k _
   clear_value k
   refine wpIn_block (wpIn_seq (wpIn_region_list ?_));refine Bf (λ_=>trivial) rfl (λ_ h=>xa) ((tb rfl).trans (by rw [f8])) ?_;refine Bf (λ_=>trivial) rfl (λ_ h=>xa) (Om (ad:=⟨E.vb 7,0,none⟩) rfl (by rw [ev _ _ _ _ s qk,ae qk];exact f7) NU ag3 (l 7 dec rfl qu qu _)) ?_;refine Bf (λ_=>trivial) rfl (λ_ h=>xa) (t2 (u:=.int .i64 i) (v:=.int .i64 dec) (r:=.int .i64 (IntKind.i64.wrap (i-dec))) (vc:=IntKind.i64= .i64) rfl (by rw [ev _ _ _ _ (by rw [sz];exact s) qk,ae qk,ev _ _ _ _ s qk,af rfl]) (by rw [ev _ _ _ _ (by rw [sz];exact s) qk,af rfl]) rfl rfl rfl rfl) ?_;refine Bf (λ_=>trivial) rfl (λ_ h=>xa) (Om (ad:=⟨E.vb 3,0,none⟩) rfl (by rw [ev _ _ _ _ (by rw [sz,sz];exact s) qk,ae qk,ev _ _ _ _ (by rw [sz];exact s) qk,ae qk,ev _ _ _ _ s qk,ae qk];exact f3) NU ag3 (l 3 n rfl qu qu _)) ?_;refine Bf (λ_=>trivial) rfl (λ_ h=>xa) (t2 (u:=.int .i64 (IntKind.i64.wrap (i-dec))) (v:=.int .i64 n) (r:=.bool (IntKind.i64.wrap (i-dec)==n)) (vc:=IntKind.i64= .i64) rfl (by rw [ev _ _ _ _ (by rw [sz,sz,sz];exact s) qk,ae qk,ev _ _ _ _ (by rw [sz,sz];exact s) qk,af rfl]) (by rw [ev _ _ _ _ (by rw [sz,sz,sz];exact s) qk,af rfl]) rfl rfl rfl rfl) ?_;have A0:∀x,(Go.au.setB W (o.heap.size+1) (.loop x)).heap[o.heap.size+1]? =some (.loop x):=λx=>Go.au.kZ M _;have K:∀x y,Go.au.setB (Go.au.setB W (o.heap.size+1) x) (o.heap.size+1) y=Go.au.setB W (o.heap.size+1) y:=λx y=>by simp [Go.au.setB,AI]
   refine wpIn_cond (t:=IntKind.i64.wrap (i-dec)==n) (by rw [ev _ _ _ _ (by rw [sz,sz,sz,sz];exact s) qk,af rfl]) ?_
   cases hs:(IntKind.i64.wrap (i-dec)==n)
   ·simp only [b6,ba]
    refine wpIn_skip ?_;exact⟨_,_,run_endRound none (A0 _),by simp [hs],by simp only [hs,b6,ba];exact K _ _⟩
   ·simp only [a7]
    refine wpIn_exit ?_;exact⟨_,_,run_endRound (some (.exit 0)) (A0 _),by simp [hs],by simp only [hs,a7];exact K _ _⟩
  ·rintro b vars rows ⟨d,L2,rfl,rfl,hL2,h1,h2,h3,h4⟩
   refine⟨rfl,trivial,λD hD=>?_⟩;simp only at h1 h2 h3 h4;have hw:∀j:Nat,dec<=j->j<=A.length->IntKind.i64.wrap ((j:Int)-dec)=j-dec:=λj k1 k2=>wrap64 qk qk
   have O:d=oG ⟨m,q,A,dec,false⟩ n:=by
    simp only [oG,b6,ba,ae f]
    cases b
    ·simp only [b6,ba]at h4
     obtain⟨rfl,h5⟩:=h4;rcases cn (dec+n.toNat) A.length with N|hge
     ·have Z:=h3 (dec+n.toNat) qk N
      rw [hw _ qk qk]at Z;exact absurd Z qz
     ·omega
    ·simp only [a7]at h4
     obtain⟨h5,Z⟩:=h4;rw [hw d h1 h2]at Z;have:=eq_of_beq Z;omega
   have X:IntKind.i64.wrap ((A.length:Int)-d)=(A.length:Int)-d:=wrap64 qk qk;have hr:wV ⟨m,q,A,dec,false⟩ n=((A.length:Int)-d,0):=by rw [O];simp [wV,f]
   refine ac ?_;refine R.dA 9 80 mixed qv ?_;simp only [go_sem,Yx];refine zw X ?_;refine R.rVD [(20101,dV ⟨m,q,A,d,false⟩)] [(20102,rowT L2)] [.pd (I ((A.length:Int)-d)),.pd (I 0)] rfl hD rfl (λ_ _=>⟨rfl,by rw [hr],L2,by rw [<-O],rfl,by rw [<-O];exact hL2⟩) ⟨rfl,trivial⟩ ⟨rfl,trivial⟩ rfl rfl
 ·refine z5 z1 ?_
  refine ar ?_;refine R.rVM [(20101,dV ⟨m,q,A,dec,true⟩)] [(20102,rowT L)] [.pd (I 0),.pd (I 22)] rfl (λ_ _=>⟨rfl,rfl,L,rfl,rfl,hL⟩) ⟨rfl,trivial⟩ ⟨rfl,trivial⟩ rfl rfl
def wW(x y:W):W:=⟨x.pos++y.pos,x.neg++y.neg⟩
def gQ(a b:List W):List W:=a.flatMap λx=>b.map (wW x)
def CO(a b:List W):(gQ a b).length=a.length*b.length:=by
 induction a with
 |nil=>simp [gQ]
 |cons x l i=>simp only [gQ,fI,bd,al,an]at i⊢;rw [i];rw [d7];omega
def Qx(w:W):Prop:=w.pos.length<=100000000/\w.neg.length<=100000000
def WJ(a b:List W)(A:∀x∈a,Qx x)(z:∀x∈b,Qx x)(r:a.length<=10000000)(q:b.length<=10000000)(E:a.length*b.length<=1000000000):bg aa 293 [.pd (ways a),.pd (ways b)] [ways (gQ a b)]:=by
 refine bg.mk Tryz.func293 λw G=>?_;refine ac ?_;refine R.mV 5 5 164 2 qn rfl rfl ?_;simp only [go_sem];refine ac ?_;refine R.fU (λ(k:Nat) s=>St.lp [1,4,10,11,40] [(12,.pd (I k)),(5,.own 5)] [] [] [] [(5,⟨164,2,(gQ (a.take k) b).map way⟩)] s) (λ(k:Nat)=>k<=a.length) (λ(k:Nat)=>a.length-k) (0) qk ?_;rintro k u;refine ai ?_;refine⟨λh=>?_,λh=>?_⟩
 ·have t:k<a.length:=uu h
  have e:=A a[k] (am t);refine z7 t ?_;have D:(gQ (a.take k) b).map way=(gQ (a.take k) b++(b.take 0).map (wW a[k])).map way:=qr;refine R.fU (λ(j:Nat) s=>St.lp [1,4,7,10,11,12,16,17,39,40] [(18,.pd (I j)),(5,.own 5)] [7] [] [] [(5,⟨164,2,(gQ (a.take k) b++(b.take j).map (wW a[k])).map way⟩)] s) (λ(j:Nat)=>j<=b.length) (λ(j:Nat)=>b.length-j) (0) qk ?_ (by(simp only [go_sem,D]);all_goals(and_intros<;>rfl));rintro j v;refine ai ?_;refine⟨λo=>?_,λo=>?_⟩
  ·have H:j<b.length:=uu o
   have f:=z b[j] (am H);refine z7 H ?_;refine R.dA 15 80 mixed qv ?_;simp only [go_sem];have p:=FZ [a[k].pos,b[j].pos] qr (by have:=e.1;have:=f.1;simp;omega);have C:=FZ [a[k].neg,b[j].neg] qr (by have:=e.2;have:=f.2;simp;omega);simp only [fj,re,el,ap,ax]at p C;refine RY.kW (p) rfl rfl zd ?_;refine z6 ?_;refine RY.kW (C) rfl rfl zd ?_;refine z6 ?_
   have n:(gQ (a.take k) b++(b.take j).map (wW a[k])).length+1<=1000000000:=by
    rw [bd,CO,al,fb,fb,nq u,nq v];have J:k*b.length+b.length<=a.length*b.length:=by rw [<-eo];exact c9 _ t
    omega
   have hsn:(b.take (j+1)).map (wW a[k])=(b.take j).map (wW a[k])++[wW a[k] b[j]]:=by rw [bh H,bl];rfl
   refine R.iy (d:=way (wW a[k] b[j])) 1000000000 48 rfl rfl qn rfl rfl rfl rfl LQ rfl zI qr (congrArg (bB aR) Fa) rfl E8 (uu n) qu qu ?_;apply ev8;simp only [go_sem,wrapN (k:=j) qk];refine R.fE (j+1) qk (l:=by(simp only [go_sem,hsn,bl,cD,ap,ax]);all_goals(and_intros<;>first|rfl))
  ·have m:¬j<b.length:=uu o
   have i:b.take j=b:=bi qk;have hsn:gQ (a.take (k+1)) b=gQ (a.take k) b++b.map (wW a[k]):=by unfold gQ;rw [bh t,gR];simp only [fI,rp,el]
   apply ev8;simp only [go_sem,i,wrapN (k:=k) qk];refine R.fE (k+1) qk (l:=xj)
 ·have m:¬k<a.length:=uu h
  have g:a.take k=a:=bi qk;refine z5 g ?_;refine R.dI 5 rfl rfl ?_;simp only [go_sem];refine R.rW ?_;rfl
abbrev AM:=List (ByteArray×Ans)
variable {done m:AM}
abbrev aN(m:AM):jo:=m.map λp=>(.string p.1,ans p.2)
def jQ(n:ByteArray)(row:List V)(l:List W):AM->AM
 | []=>[(n,⟨row,l⟩)]
 |(N,a)::m=>if N=n then(n,⟨row,a.ways++l⟩)::m else(N,a)::jQ n row l m
def qc(n:ByteArray):AM->Option (List W)
 | []=>none
 |(N,a)::m=>if N=n then some a.ways else qc n m
def IZ{n:ByteArray}{row:List V}{l:List W}:∀{m:AM},(∀p∈m,p.1≠n)->jQ n row l m=m++[(n,⟨row,l⟩)]
 | [],_=>rfl
 |(N,a)::m,h=>by
  have b:N≠n:=h (N,a) (bk ..);simp only [jQ,ae b,bE,IZ (λp H=>h p (b3 _ H))]
def Sl{n:ByteArray}{row:List V}{l:List W}:∀{m:AM} {i:Nat} (hi:i<m.length),m[i].1=n->(∀j (b:j<i),(m[j]' qk).1≠n)->jQ n row l m=m.set i (n,⟨row,m[i].2.ways++l⟩)
 |(N,a)::m,0,_,h,_=>by simp only [List.getElem_cons_zero]at h;simp [jQ,h]
 |(N,a)::m,i+1,hi,h,H=>by
  have d:N≠n:=H 0 qk;simp only [jQ,ae d,List.set_cons_succ,List.getElem_cons_succ];rw [Sl (uu hi) (uu h) (λj b=>uu (H (j+1) qk))]
def aqy:DW (.raw (.slice none 0 0)) (ways []):=.nil 2
def tm(r:Nat)(m:AM)(row:List V)(l:List W)(f:(m.map (·.1)).Nodup)(L:row.length<=1000000000)(N:(iO row).length<=100000000000)(J:∀p∈m,p.2.ways.length+l.length<=1000000000000)(K:l.length<=1000000000000):
  fV aa 290 [.pd (.raw (.map (some r))),.pd (vals row),.pd (ways l)] [(r,aN m)] [r] (λres P=>res= .ret []/\P=[(r,aN (jQ (rowB row) row l m))]):=by
 refine fV.mk Tryz.func290 λw G=>?_;refine ac ?_;refine R.kW (Z8 row L N) rfl rfl zd ?_;refine ac ?_
 have s:∀p∈aN m,cZ .string p.1=true:=by
  intro p b;obtain⟨q,_,rfl⟩:=aq.1 b;rfl
 have t:∀k∈(aN m).map (·.1),cZ .string k=true:=by
  intro k u;obtain⟨p,b,rfl⟩:=aq.1 u;exact s p b
 by_cases x:∃p∈m,p.1=rowB row
 ·obtain⟨q,v,O⟩:=x
  obtain⟨i,g,rfl⟩:=bN v
  have n:∀j (D:j<i),(m[j]' qk).1≠rowB row:=by
   intro j D e;have:=(cB.1 f) j i qz qz D;simp only [ei]at this;exact this (e.trans O.symm)
  have d:=Sl (row:=row) (l:=l) g O n
  have Q:((aN m).map (·.1)).Nodup:=by
   simp only [aN,cr,List.Nodup,eg]at f⊢;exact f.imp λh e=>h (uu e)
  have z:i<(aN m).length:=uu g;have A:(aN m).getD i (undef,.ak [])=(.string (rowB row),ans m[i].2):=by simp [g,O]
  have H:rU aa 74 .string (.string (rowB row)) ((aN m).map (·.1)) ((aN m).map (·.2)) true (ans m[i].2):=by
   refine⟨rfl,t,Q,i,uu g,?_,?_⟩
   ·simp [g,O]
   ·simp [g]
  refine R.BP (m:=aN m) rfl rfl (ah qn) rfl q9 rfl mY H ?_;have C:=J m[i] (am g);have a:=OH [m[i].2.ways,l] qr qz;simp only [fj,re,el,ap,ax]at a;refine ac ?_;refine R.kW (a) rfl rfl zd ?_;refine ac ?_;refine R.UH (i:=i) (m:=aN m) (.inl rfl) rfl (ah qn) rfl q9 rfl rfl mY rfl s (.inr (by simp [cmM])) z (by rw [A]) ?_;refine ac ?_;refine R.Y3 (vc:=True) [(r,aN (jQ (rowB row) row l m))] rfl trivial ⟨rfl,rfl⟩ (λE M h=>?_);simp only [lk]at h
  split at h
  ·rename_i e;subst e;cases h
   refine⟨?_,.inl qr⟩;rw [d];simp only [St.map,lk,a7,aN,gS]
  ·cases h
 ·have o:∀p∈m,p.1≠rowB row:=λp b e=>x ⟨p,b,e⟩
  have d:=IZ (row:=row) (l:=l) o
  have H:rU aa 74 .string (.string (rowB row)) ((aN m).map (·.1)) ((aN m).map (·.2)) false (.ak [NIL,NIL]):=by
   refine⟨rfl,λk u=>⟨t k u,λe=>?_⟩,oE⟩;simp only [aN,cr,aq,Function.comp]at u;obtain⟨p,b,rfl⟩:=u;exact o p b (uu e)
  refine R.BP (m:=aN m) rfl rfl (ah qn) rfl q9 rfl mY H ?_
  (refine aJ 1 _ _ ?_;simp only [go_sem])
  refine R.up 15 qn rfl aqy ?_;have a:=OH [[],l] qr qz;simp only [fj,re,el,cg,ap,ax]at a;refine ac ?_;refine R.kW (a) rfl rfl zd ?_;refine ac ?_;refine R.jA (m:=aN m) (.inl rfl) rfl (ah qn) rfl q9 rfl rfl mY rfl (λp b=>⟨s p b,λe=>?_⟩) (.inr (by simp [cmM])) ?_
  ·obtain⟨q,v,rfl⟩:=aq.1 b
   exact o q v (uu e)
  apply ev8;simp only [go_sem,fK];refine R.Y3 (vc:=True) [(r,aN (jQ (rowB row) row l m))] rfl trivial ⟨rfl,rfl⟩ (λE M h=>?_);simp only [lk]at h
  split at h
  ·rename_i e;subst e;cases h
   refine⟨?_,.inl qr⟩;rw [d];simp [St.map,lk,aN]
  ·cases h
def eU:jo:=[(key 1,F 181),(key 2,F 182),(key 3,F 183),(key 4,F 184),(key 5,F 185),(key 6,F 186),(key 7,F 187)]
def rG:bg aa 111 [] [.mp (eU.map (·.1)) (eU.map (·.2))]:=by
 refine bg.mk Tryz.func111 λw G=>?_;refine ac ?_;refine R.makeMap rfl rfl rfl qn λr h H=>?_;clear H;refine ac ?_;refine R.jA (.inr rfl) rfl (ah qn) rfl xf rfl rfl o9 rfl vt (.inl h) ?_;apply ev8;simp only [go_sem,fK];refine R.jA (.inr rfl) rfl (ah qn) rfl xf rfl rfl o9 rfl vt (.inl h) ?_;apply ev8;simp only [go_sem,fK];refine R.jA (.inr rfl) rfl (ah qn) rfl xf rfl rfl o9 rfl vt (.inl h) ?_;apply ev8;simp only [go_sem,fK];refine R.jA (.inr rfl) rfl (ah qn) rfl xf rfl rfl o9 rfl vt (.inl h) ?_;apply ev8;simp only [go_sem,fK];refine R.jA (.inr rfl) rfl (ah qn) rfl xf rfl rfl o9 rfl vt (.inl h) ?_;apply ev8;simp only [go_sem,fK];refine R.jA (.inr rfl) rfl (ah qn) rfl xf rfl rfl o9 rfl vt (.inl h) ?_;apply ev8;simp only [go_sem,fK];refine R.jA (.inr rfl) rfl (ah qn) rfl xf rfl rfl o9 rfl vt (.inl h) ?_;apply ev8;simp only [go_sem,fK];refine R.Nv r eU (by simp [St.map,lk,eU]) h ?_;simp only [go_sem,SV.thaw,PD.thaw,fK];refine R.rW ?_;rfl
abbrev mref(r:Nat):PD:=.raw (.map (some r))
abbrev Sm(p:Plan)(facts:List dZ)(ks:List Nat):PD:=.ak [I p.kind,I p.table,plans p.kids,xQ p.tests,ints p.cols,I p.col,I p.agg,attrs p.attrs,iC facts,.list 1 (ks.map mref)]
def C1(p:Plan)(facts:List dZ)(r:Nat)(ks:List Nat):bg aa 187 [.pd (Sm p facts (r::ks))] [mref r]:=by
 refine bg.mk Tryz.func187 λw G=>?_
 (refine Yn [] 120 _ _ ?_;simp only [go_sem,Go.au.eF,jr,↓reduceIte,Tryz.results187,cW])
 omega
def I4(n:ByteArray)(row:List V)(l:List W):∀(m:AM) (x:ByteArray),x∈(jQ n row l m).map (·.1)↔x=n\/x∈m.map (·.1)
 | [],x=>by simp [jQ]
 |(N,a)::m,x=>by
  simp only [jQ]
  split
  ·rename_i e;subst e;simp
  ·simp only [ap,b8,I4 n row l m x]
   constructor
   ·rintro(h|h|h)<;>simp [h]
   ·rintro(h|h|h)<;>simp [h]
def zU{n:ByteArray}{row:List V}{l:List W}:∀{m:AM},(m.map (·.1)).Nodup->((jQ n row l m).map (·.1)).Nodup
 | [],_=>by simp [jQ]
 |(N,a)::m,h=>by
  simp only [ap,dE]at h;simp only [jQ]
  split
  ·rename_i e;subst e;simpa using h
  ·rename_i e
   simp only [ap,dE,I4];exact⟨λH=>H.elim e h.1,zU h.2⟩
def I5{n:ByteArray}{row:List V}{l:List W}{c:Nat}:∀{m:AM},(∀p∈m,p.2.ways.length<=c)->∀p∈jQ n row l m,p.2.ways.length<=c+l.length
 | [],_,p,H=>by simp only [jQ,bp]at H;subst H;simp
 |(N,a)::m,h,p,H=>by
  simp only [jQ]at H
  split at H
  ·rcases b8.1 H with rfl|H
   ·have:=h (N,a) (bk ..);simp at this⊢;omega
   ·have:=h p (b3 _ H);omega
  ·rcases b8.1 H with rfl|H
   ·have:=h (N,a) (bk ..);omega
   ·exact I5 (λq b=>h q (b3 _ b)) p H
def MO(t:Int)(m:AM)(q:dZ×Nat):AM:=if q.1.table=t then jQ (rowB q.1.row) q.1.row [⟨[(q.2:Int)],[]⟩] m else m
def rH(t:Int)(facts:List dZ)(k:Nat):AM:=((facts.take k).zipIdx).foldl (MO t) []
def Sr(t:Int)(facts:List dZ)(k:Nat)(h:k<facts.length):rH t facts (k+1)=MO t (rH t facts k) (facts[k],k):=by
 unfold rH;rw [bh h,qT,k7];have:(facts.take k).length=k:=qz;simp [this]
def YQ(t:Int)(facts:List dZ):∀k,k<=facts.length->((rH t facts k).map (·.1)).Nodup/\∀p∈rH t facts k,p.2.ways.length<=k
 |0,_=>by simp [rH]
 |k+1,h=>by
  obtain⟨a,H⟩:=YQ t facts k qk;rw [Sr t facts k qk];unfold MO
  split
  ·exact⟨zU a,I5 H⟩
  ·exact⟨a,λp b=>by have:=H p b;omega⟩
def vB(i:Int):DW (.list 2 [.ak [ints [i],NIL]]) (ways [⟨[i],[]⟩]):=
 .list 2 rfl (λj h=>by
  have:j=0:=uu h;subst this;exact⟨_,_,rfl,rfl,.cons (.same _) (.cons (.nil 1) .nil)⟩)
def oc(row:List V):Prop:=row.length<=1000000000/\(iO row).length<=100000000000
def FQ(p:Plan)(facts:List dZ)(ks:List Nat)(C:facts.length<=100000000)(o:∀f∈facts,oc f.row):
  fV aa 181 [.pd (Sm p facts ks)] [] [] (λres M=>∃r,res= .ret [mref r]/\M=[(r,aN (rH p.table facts facts.length))]):=by
 refine fV.mk Tryz.func181 λw G=>?_;refine ac ?_;refine R.makeMap rfl rfl rfl qn λr d g=>?_;clear g;refine ac ?_;refine R.og (λ(k:Nat) s=>{St.lp [1,2,3,8,9,30] [(10,.pd (I k))] [1] [] [] [] s with maps:=[(r,.map (aN (rH p.table facts k)))]}) (λ(k:Nat)=>k<=facts.length) (λ(k:Nat)=>facts.length-k) (0) qk (by(simp only [go_sem,rH]);all_goals(and_intros<;>first|rfl|simp)) ?_;rintro k v;obtain⟨i,A⟩:=YQ p.table facts k v;refine ai ?_;refine⟨λh=>?_,λh=>?_⟩
 ·have t:k<facts.length:=uu h
  have a:=o facts[k] (am t);have H:=Sr p.table facts k t;refine z7 t ?_;refine⟨λb=>?_,λb=>?_⟩
  ·have b:facts[k].table=p.table:=uu b
   have hs:rH p.table facts (k+1)=jQ (rowB facts[k].row) facts[k].row [⟨[(k:Int)],[]⟩] (rH p.table facts k):=by rw [H];simp [MO,b]
   refine ac ?_;refine R.up 27 qn rfl (vB _) ?_;simp only [go_sem];refine R.ig xp 60 xp rfl rfl (ah qn) zg (tm r (rH p.table facts k) facts[k].row [⟨[(k:Int)],[]⟩] i a.1 a.2 (λq u=>by have:=A q u;simp;omega) qr) (λm n h=>?_) (λm h=>?_) ?_
   ·simp only [lk]at h⊢
    split at h
    ·rename_i e;subst e;cases h;simp [St.map,lk]
    ·cases h
   ·simp only [bp]at h;subst h;exact⟨jx,.inl d⟩
   rintro res M ⟨rfl,rfl⟩ x;clear x;simp only [Behind];rw [<-hs];apply ev8;simp only [go_sem,wrapN (k:=k) qk,cI];refine R.fE (k+1) qk
  ·have b:¬facts[k].table=p.table:=uu b
   have hs:rH p.table facts (k+1)=rH p.table facts k:=by rw [H];simp [MO,b]
   apply ev8;simp only [go_sem,wrapN (k:=k) qk];refine R.fE (k+1) qk (l:=xr)
 ·have z:¬k<facts.length:=uu h
  have j:k=facts.length:=qk;subst j;refine ac ?_;refine R.wu (vc:=True) [(r,aN (rH p.table facts facts.length))] rfl trivial ⟨r,rfl,rfl⟩ (λm n h=>?_);simp only [lk]at h
  split at h
  ·rename_i e;subst e;cases h;exact⟨q9,.inr d⟩
  ·cases h
abbrev bQ:=List (List V×List W)
variable {L M A:bQ}{g:ByteArray×Ans->bQ}
def bW(L:bQ):AM:=L.foldl (λm x=>jQ (rowB x.1) x.1 x.2 m) []
def I7(L:bQ)(x:List V×List W):bW (L++[x])=jQ (rowB x.1) x.1 x.2 (bW L):=by simp [bW]
def foldl_rev{P:bQ->AM->Prop}(b:P [] [])(H:∀L x m,P L m->P (L++[x]) (jQ (rowB x.1) x.1 x.2 m))(L:bQ):P L (bW L):=by
 have:∀(n:Nat) (L:bQ),L.length=n->P L (bW L):=by
  intro n
  induction n with
  |zero=>intro L h;rw [d8.1 h];exact b
  |succ n i=>
   intro L h;rcases rg L with rfl|⟨a,x,rfl⟩
   ·simp at h
   ·simp only [List.concat_eq_append]at h⊢
    rw [I7];exact H a x _ (i a (uu h))
 exact this _ L rfl
def jG(L:bQ):((bW L).map (·.1)).Nodup:=foldl_rev (P:=λ_ m=>(m.map (·.1)).Nodup) qr (λ_ _ _ h=>zU h) L
def sumW(L:bQ):Nat:=(L.map λx=>x.2.length).sum
def sumW_snoc(L:bQ)(x:List V×List W):sumW (L++[x])=sumW L+x.2.length:=by simp [sumW]
def MP(L M:bQ):sumW (L++M)=sumW L+sumW M:=by simp [sumW]
def Sv(h:L.Perm M):sumW L=sumW M:=(h.map _).sum_nat
def Sz(L:bQ):∀p∈bW L,p.2.ways.length<=sumW L:=
 foldl_rev (P:=λL m=>∀p∈m,p.2.ways.length<=sumW L) qr (λL x m h p H=>by rw [sumW_snoc];exact I5 h p H) L
def okD(L:bQ):Prop:=(∀x∈L,oc x.1)/\sumW L<=500000000000
def K4(h:L.Perm M)(o:okD L):okD M:=⟨λx H=>o.1 x (h.mem_iff.2 H),by rw [<-Sv h];exact o.2⟩
def WL(o:okD (L++M)):okD L:=⟨λx h=>o.1 x (eR _ h),by have:=o.2;rw [MP]at this;omega⟩
def Es(r:Nat)(L:bQ)(x:List V×List W)(o:okD (L++[x])):
  fV aa 290 [.pd (.raw (.map (some r))),.pd (vals x.1),.pd (ways x.2)] [(r,aN (bW L))] [r] (λres M=>res= .ret []/\M=[(r,aN (bW (L++[x])))]):=by
 have h:=o.1 x qr;have a:=o.2;rw [sumW_snoc]at a;rw [I7];exact tm r (bW L) x.1 x.2 (jG L) h.1 h.2 (λp H=>by have:=Sz L p H;omega) qk
def I8(a:bQ)(res:jY)(M:Maps):Prop:=∃r L,res= .ret [mref r]/\M=[(r,aN (bW L))]/\L.Perm a
abbrev add1(p:ByteArray×Ans):bQ:=[(p.2.row,p.2.ways)]
abbrev iw(m:AM):bQ:=m.flatMap add1
def Bz:aN (bW [])=[]:=rfl
def rJ(h:L.Perm (A++done.flatMap g))(q:ByteArray×Ans):(L++g q).Perm (A++(done++[q]).flatMap g):=by
 rw [gR,<-cD];simpa using h.append_right (g q)
def yh{rest:AM}{q:ByteArray×Ans}(H:okD (A++m.flatMap g))(h:((done++[q])++rest).Perm m)(a:L.Perm (A++done.flatMap g)):okD (L++g q):=by
 have b:(A++m.flatMap g).Perm ((L++g q)++rest.flatMap g):=by
  refine(gD A (eQ g h.symm)).trans ?_;rw [gR,<-cD];exact(rJ a q).symm.append_right _
 exact WL (K4 b H)
def bV{a:Nat}(h:a≠b):¬a=b/\¬b=a/\(a==b)=false/\(b==a)=false:=⟨h,λe=>h e.symm,uu h,by simpa usingλe:b=a=>h e.symm⟩
def eG{s:St}{q:Nat}{x:dQ}(h:s.map r=none)(H:s.map q=some x):q≠r:=by rintro rfl;rw [h]at H;cases H
def keyS(p:ByteArray×Ans):Value:=.string p.1
def CP(m:AM):(aN m).map (·.1)=m.map keyS:=by simp [aN,keyS,Function.comp_def]
def MQ(m:AM):∀p∈aN m,p.1.oneCell'=true:=by
 intro p h;obtain⟨q,_,rfl⟩:=aq.1 h;rfl
def Ae(m:AM)(i:Nat)(h:i<m.length):(aN m).getD i (undef,.ak [])=(.string m[i].1,ans m[i].2):=by simp [aN,h]
def WM(n:(m.map (·.1)).Nodup)(a:p∈m){i:Nat}(hi:i<m.length)(h:m[i].1=p.1):m[i]=p:=by
 obtain⟨j,b,rfl⟩:=bN a;have a:=cB.1 n;rcases ll i j with H|H|H
 ·exact(a i j (uu hi) (uu b) H (uu h)).elim
 ·subst H;rfl
 ·exact(a j i (uu b) (uu hi) H (uu h.symm)).elim
section
variable {C:Cx}{s:St}{all:Array Oper}{l:List Oper}{k:List KI}{o:Oper}
def R.BA{t:TypeId}(m:AM)(a:o.op= .range t x)(g:o.guard=none)(e:o.dst=some d)(n:d<s.n)(h:aO s x= .pd (mref r))(hm:s.map r=some (.map (aN m)))(H:(pR C.P t).isSome=true)
  (next:∀b,b≠r->s.map b=none->R C (.ops all l::k) (St.set {s with maps:=(b,.it r (m.map keyS) none)::s.maps} d (.pd (.raw (.pointer (some ⟨b,0,none⟩)))))):R C (.ops all (o::l)::k) s:=
 R.range a g e n h hm H (λb i f=>by rw [CP];exact next b i f)
def R.J7{left:AM}(j:(m.map (·.1)).Nodup)(q:(done++left).Perm m)(u:o.op= .next x false)(v:o.guard=none)(z:bU s o)(t:aO s x= .pd (.raw (.pointer (some ⟨b,0,none⟩))))(hit:s.map b=some (.it r (left.map keyS) cur))(hm:s.map r=some (.map (aN m)))
  (over:left=[]->R C (.ops all l::k) (s.put o.dst (.tpl [.raw (.bool false)])))
  (step:∀g p L,left=g++p::L->p∈m->((done++[p])++(g++L)).Perm m->R C (.ops all l::k) (St.put {s with maps:=up b (.it r ((g++L).map keyS) (some (keyS p))) s.maps} o.dst (.tpl [.raw (.bool true),.raw (keyS p),ans p.2]))):R C (.ops all (o::l)::k) s:=by
 refine R.next u v z t hit hm (MQ m) (λh=>over (uu h)) (λg key L i D f d=>?_);obtain⟨a,c,n,rfl,A⟩:=B0.1 D;obtain⟨p,E,rfl,rfl,rfl⟩:=Bu.1 A;have H:p∈m:=q.mem_iff.1 (by rw [n];simp);have f:i<m.length:=uu f;rw [Ae m i f]at d;have e:m[i]=p:=WM j H f (by simpa [keyS]using d);rw [Ae m i f,e,<-bl]
 exact step a p E n H (List.Perm.trans (by
  rw [n];simp only [cD,Bb];exact gD _ (lB.symm)) q)
def R.BD{left:List Value}(e:(m.map (·.1)).Nodup)(h:p∈m)(d:o.op= .entry x)(g:o.guard=none)(f:bU s o)(a:aO s x= .pd (.raw (.pointer (some ⟨b,0,none⟩))))(hit:s.map b=some (.it r left (some (keyS p))))(hm:s.map r=some (.map (aN m)))
  (next:R C (.ops all l::k) (s.put o.dst (.tpl [.raw (keyS p),ans p.2]))):R C (.ops all (o::l)::k) s:=by
 obtain⟨i,H,rfl⟩:=bN h;refine R.entry (i:=i) d g f a hit hm (MQ m) (uu H) (by rw [Ae m i H];rfl) ?_;rw [Ae m i H];exact next
end
def GU(M m:AM)(k:Nat):bQ:=(if 0<k then iw M else [])++(if 1<k then iw m else [])
def FR(p:Plan)(facts:List dZ)(f d:Nat)(a M:AM)(h12:f≠d)(n1:(a.map (·.1)).Nodup)(n2:(M.map (·.1)).Nodup)(ho:okD (iw a++iw M)):
  fV aa 185 [.pd (Sm p facts [f,d])] [(f,aN a),(d,aN M)] [] (I8 (iw a++iw M)):=by
 have hz:=bV h12;obtain⟨K,H⟩:∃K,K=[f,d]:=⟨_,rfl⟩;rw [<-H];refine fV.mk Tryz.func185 λw G=>?_;refine ac ?_;refine R.makeMap rfl rfl rfl qn λr v t=>?_;have e1:=bV (eG (q:=f) (x:=.map (aN a)) t q9);have e2:=bV (eG (q:=d) (x:=.map (aN M)) t (by simp [St.map,lk,hz]));clear t;refine ac ?_;refine R.og (λ(x:Nat×bQ) s=>{St.lp [2,3,10,11,29] [(12,.pd (I x.1))] [1] [] [] [] s with maps:=[(r,.map (aN (bW x.2))),(f,.map (aN a)),(d,.map (aN M))]}) (λ(x:Nat×bQ)=>x.1<=K.length/\x.2.Perm (GU a M x.1)) (λ(x:Nat×bQ)=>K.length-x.1) ((0,[])) (⟨qk,by simp [GU]⟩) (by(simp only [go_sem,Bz,e1,e2,hz]);all_goals(and_intros<;>first|rfl|simp)) ?_;rintro⟨k,L⟩ ⟨hk,hL⟩;simp only at hk hL;have avn:K.length=2:=by rw [H];rfl
 refine ai ?_;refine⟨λh=>?_,λh=>?_⟩
 ·have J:k<K.length:=uu h
  obtain⟨n,mk,T,E,u,N,Q,C⟩:∃n mk,K[k]=n/\(mk.map (·.1)).Nodup/\GU a M (k+1)=GU a M k++iw mk/\(∀x:dQ,lk n [(r,x),(f,.map (aN a)),(d,.map (aN M))]=some (.map (aN mk)))/\n≠r/\okD (GU a M (k+1)):=by
   subst H
   match k,J with
   |0,_=>exact⟨f,a,rfl,n1,by simp [GU],λx=>by simp [lk,e1],e1.1,by simpa [GU]using WL ho⟩
   |1,_=>exact⟨d,M,rfl,n2,by simp [GU],λx=>by simp [lk,e2,hz],e2.1,by simpa [GU]using ho⟩
  have e3:=bV Q;rw [u]at C;apply aI;simp only [go_sem,getD_map,J,T];repeat refine⟨qk,?_⟩
  refine R.BA mk rfl rfl rfl qn rfl (by simpa [St.map]using N _) xv λb O i=>?_;have e4:=bV (eG (q:=r) (x:=.map (aN (bW L))) i q9);have e5:=bV (eG (q:=f) (x:=.map (aN a)) i km);have e6:=bV (eG (q:=d) (x:=.map (aN M)) i (by simp [St.map,lk,e2,hz]));have e7:=bV O;have o:∀x y:dQ,lk n [(b,x),(r,y),(f,.map (aN a)),(d,.map (aN M))]=some (.map (aN mk)):=λx y=>by have:=N y;simp only [lk,e7,ba]at this⊢;exact this
  clear O i;refine ac ?_;refine R.og (λ(y:AM×AM×bQ×Option Value) s=>{St.lp [2,3,10,11,12,17,28,29] [] [1] [] [] [] s with maps:=[(b,.it n (y.2.1.map keyS) y.2.2.2),(r,.map (aN (bW y.2.2.1))),(f,.map (aN a)),(d,.map (aN M))]}) (λ(y:AM×AM×bQ×Option Value)=>(y.1++y.2.1).Perm mk/\y.2.2.1.Perm (GU a M k++iw y.1)) (λ(y:AM×AM×bQ×Option Value)=>y.2.1.length) (([],mk,L,none)) (⟨.refl _,by simpa [iw]using hL⟩) (by(simp only [go_sem,e1,e2,e4,e5,e6,hz]);all_goals(and_intros<;>first|rfl|simp)) ?_;rintro⟨D,left,P,cur⟩ ⟨X,j⟩;simp only at X j;refine ac ?_;refine R.J7 (m:=mk) (r:=n) (cur:=cur) (left:=left) (done:=D) E X rfl rfl (ah qn) rfl q9 (by simpa [St.map]using o _ _) (λhz0=>?_) (λl1 q l2 hz0 U A=>?_)
  ·subst hz0
   have hL2:P.Perm (GU a M (k+1)):=by rw [u];refine j.trans (gD _ ?_);exact eQ _ (uu X)
   apply aj;simp only [go_sem,↓reduceIte,wrapN (k:=k) qk];refine R.fE (k+1,P) ⟨qk,hL2⟩ (l:=x4)
  ·refine ar ?_
   refine R.BD (p:=q) (left:=(l1++l2).map keyS) (r:=n) E U rfl rfl (ah qn) rfl q9 (by simpa [St.map,up]using o _ _) ?_;refine ac ?_;have z:okD (P++ [(q.2.row,q.2.ways)]):=yh (g:=add1) C A j;refine R.ig xp 60 xp rfl rfl (ah qn) zg (Es r P (q.2.row,q.2.ways) z) (λr' m' h=>?_) (λr' h=>?_) ?_
   ·simp only [lk]at h
    split at h
    ·rename_i e;subst e;cases h;simp [St.map,lk,e4]
    ·cases h
   ·simp only [bp]at h;subst h;exact⟨jx,.inl v⟩
   rintro res M' ⟨rfl,rfl⟩ hh;clear hh;simp only [Behind];apply ev8;simp only [go_sem,cI,e1,e2,e3,e4];refine R.fE (D++[q],l1++l2,P++ [(q.2.row,q.2.ways)],some (keyS q)) ⟨A,rJ j q⟩ (hm:=kd) (l:=x4)
 ·have hge:¬k<K.length:=uu h
  have Z:k=2:=by have:K.length=2:=by rw [H];rfl
                 omega
  subst Z;refine ac ?_;refine R.wu (vc:=True) [(r,aN (bW L))] rfl trivial ⟨r,L,rfl,rfl,by simpa [GU]using hL⟩ (λr' m' h=>?_);simp only [lk]at h
  split at h
  ·rename_i e;subst e;cases h;exact⟨q9,.inr v⟩
  ·cases h
def FSx:aF aa 292:=λ_ _=>qq
def yX(row:List V)(s:Side):Prop:=s.var= -1\/(0<=s.col/\s.col.toNat<row.length)
def CQ(row:List V)(s:Side):V:=if s.var= -1 then s.val else row.getD s.col.toNat V.zero
def YR(s:Side)(a:Ans)(h:yX a.row s):aG aa 291 [.pd (side s),.ref (ans a) 0] [val (CQ a.row s)]:=by
 refine aG.mk Tryz.func291 λw G=>?_;refine ac ?_;refine⟨λb=>?_,λb=>?_⟩
 ·have b:s.var= -1:=uu b
  refine ac ?_;refine R.rC ?_;simp only [go_sem,sa,CQ,af b]
  try rfl
 ·have b:¬s.var= -1:=uu b
  obtain⟨e,d⟩:0<=s.col/\s.col.toNat<a.row.length:=by
   rcases h with h|h
   ·exact(b h).elim
   ·exact h
  have H:((s.col.toNat:Nat):Int)=s.col:=iz e;have x:CQ a.row s=a.row[s.col.toNat]:=by simp [CQ,b,d]
  rw [x];generalize s.col.toNat=q at H d;rw [<-H];refine z7 d ?_;refine R.rC ?_;simp only [go_sem,sa]
  try rfl
def _root_.Go.au.RY.nY{C:Cx}{T:List Oper}{o:Oper}{l:List Oper}{k:List KI}{s:St}{f:FuncId}{ds:List PD}{xs:Array Operand}{a:Array TypeId}{args:List SV}{rs:List PD}{b:Bool}(i:aG C.P f (args++ds.map λd=>.ref d 0) rs)(H:o.op= .call ⟨.value (.tmp t),xs,a⟩)(h:aO s (.tmp t)= .pd (.clo f ds))(g:o.guard=none)(m:iD C.P s.var s.row (xs.toList.map (aO s)) args b)
  (e:b=true->plain rs=true)(j:dN s o)(next:RY C all T k l (s.put o.dst (eX rs))):RY C all T k (o::l) s:=⟨_,.inl ⟨g,.nY t f ds xs a args rs b H h m i e⟩,ah j,next⟩
def pi(row:List V)(t:AP):Bool:=kU (CQ row t.left) t.op (CQ row t.right) t.add
def K5(t:AP)(a:Ans)(H:yX a.row t.left)(h:yX a.row t.right):aG aa 292 [.pd (tst t),.ref (.clo 291 [ans a]) 0] [B (!pi a.row t)]:=by
 refine aG.mk Tryz.func292 λw G=>?_;refine ac ?_;refine R.dA 12 80 mixed qv ?_;simp only [go_sem];refine RY.nY (ds:=[ans a]) (args:=[.pd (side t.left)]) (YR t.left a H) rfl rfl rfl zd ke qn ?_;refine z6 ?_;refine RY.nY (ds:=[ans a]) (args:=[.pd (side t.right)]) (YR t.right a h) rfl rfl rfl zd ke qn ?_;refine z6 ?_;refine R.kC (Yo (CQ a.row t.left) t.op (CQ a.row t.right) t.add) rfl rfl zj ?_;refine ac ?_;refine R.rC ?_;rfl
def Co.Dq{P:Program}{var:Nat->Option (List SV)}{row:Nat->Option Row}{f g u:Nat}(d:PD){F:List PD->PD->Prop}(v:var t=some [.clo g [u]])(a:var u=some (d.cells.map .pd))(b:aF P f)(h:∀es r,F es r->aG P f (es.map .pd++[.ref (.clo g [d]) 0]) [r]):Co P var row (.clo f [t]) (.fn F) true:=
 .clo f [t] [.clo g [d]] F (.clo f [t] [.clo g [d]] rfl (λ_=>[.clo g [u]]) (λi H=>by
  obtain rfl:i=0:=uu H;exact⟨v,kw⟩) (λi j H hj=>by
  obtain rfl:i=0:=uu H;obtain rfl:j=0:=by simpa [PD.width]using hj
  refine .clo g [u] [d] rfl (λ_=>d.cells.map .pd) (λi H=>?_) (λi j H hj=>?_)
  ·obtain rfl:i=0:=uu H
   exact⟨a,by simp [PD.bD]⟩
  ·obtain rfl:i=0:=uu H
   have hj:j<d.width:=hj
   have e:(d.cells.map SV.pd).getD j .dead= .pd (d.cell j):=by
    rw [<-PD.jy d j hj];have:j<d.cells.length:=ww;simp [this]
   show Cv var row ((d.cells.map SV.pd).getD j .dead) (d.cell j);rw [e];exact .pd _)) b h
def ma(p:Plan)(row:List V):Bool:=p.tests.any λt=>!pi row t
def tH(p:Plan)(q:ByteArray×Ans):bQ:=if ma p q.2.row then []else add1 q
def NT(p:Plan)(facts:List dZ)(a:Nat)(M:AM)(O:(M.map (·.1)).Nodup)(U:∀q∈M,∀t∈p.tests,yX q.2.row t.left/\yX q.2.row t.right)(X:okD (M.flatMap (tH p))):
  fV aa 182 [.pd (Sm p facts [a])] [(a,aN M)] [] (I8 (M.flatMap (tH p))):=by
 refine fV.mk Tryz.func182 λw G=>?_;refine ac ?_;refine R.makeMap rfl rfl rfl qn λr n o=>?_;have e1:=bV (eG (q:=a) (x:=.map (aN M)) o q9);clear o;apply ev8;simp only [go_sem,cW];repeat refine⟨qk,?_⟩
 refine R.BA M rfl rfl rfl qn rfl km xv λb E j=>?_;have e4:=bV (eG (q:=r) (x:=.map []) j q9);have e5:=bV (eG (q:=a) (x:=.map (aN M)) j km);clear E j;refine ac ?_;refine R.og (λ(y:AM×AM×bQ×Option Value) s=>{St.lp [1,2,3,12,30] [] [1] [] [] [] s with maps:=[(b,.it a (y.2.1.map keyS) y.2.2.2),(r,.map (aN (bW y.2.2.1))),(a,.map (aN M))]}) (λ(y:AM×AM×bQ×Option Value)=>(y.1++y.2.1).Perm M/\y.2.2.1.Perm ([]++y.1.flatMap (tH p))) (λ(y:AM×AM×bQ×Option Value)=>y.2.1.length) (([],M,[],none)) (⟨.refl _,qr⟩) (by(simp only [go_sem,Bz,e1,e4,e5]);all_goals(and_intros<;>first|rfl|simp)) ?_;rintro⟨d,left,L,K⟩ ⟨hp,hL'⟩;simp only at hp hL';refine ac ?_;refine R.J7 (m:=M) (r:=a) (cur:=K) (left:=left) (done:=d) O hp rfl rfl (ah qn) rfl q9 v9 (λhz0=>?_) (λz q v hz0 u i=>?_)
 ·subst hz0
  have J:L.Perm (M.flatMap (tH p)):=ju;refine ar ?_;refine R.wu (vc:=True) [(r,aN (bW L))] rfl trivial ⟨r,L,rfl,rfl,J⟩ (λN Q h=>?_);simp only [lk]at h
  split at h
  ·rename_i e;subst e;cases h;exact⟨yv,.inr n⟩
  ·cases h
 ·refine ar ?_
  refine R.BD (p:=q) (left:=(z++v).map keyS) (r:=a) O u rfl rfl (ah qn) rfl q9 v9 ?_;refine ac ?_;have D:aG aa 261 [.pd (xQ p.tests),.fn (decides tst (λt=>!pi q.2.row t) p.tests)] [B (ma p q.2.row)]:=wP _ _;refine R.kC (D) rfl rfl (zc (.cons (Co.Dq (ans q.2) rfl rfl FSx (by rintro es r ⟨x,T,rfl,rfl⟩;have:=U q u x T;exact K5 x q.2 this.1 this.2)) (.nil))) ?_;refine ac ?_;have H:=rJ hL' q;have f:=yh (A:=[]) (g:=tH p) X i hL';refine⟨λk=>?_,λk=>?_⟩
  ·have k:ma p q.2.row=false:=uu k
   have C:tH p q=add1 q:=by simp [tH,k]
   rw [C]at H f;refine ac ?_;refine R.ig xp 60 xp rfl rfl (ah qn) zg (Es r L (q.2.row,q.2.ways) f) (λN Q h=>?_) (λN h=>?_) ?_
   ·simp only [lk]at h
    split at h
    ·rename_i e;subst e;cases h;simp [St.map,lk,e4]
    ·cases h
   ·simp only [bp]at h;subst h;exact⟨jx,.inl n⟩
   rintro P M' ⟨rfl,rfl⟩ Z;clear Z;simp only [Behind];apply ev8;simp only [go_sem,cI,e1,e4];refine R.fE (d++[q],z++v,L++add1 q,some (keyS q)) ⟨i,H⟩ (hm:=kd) (l:=by(simp only [go_sem,e1,e4,e5]);all_goals(and_intros<;>first|rfl))
  ·have k:ma p q.2.row=true:=uu k
   have C:tH p q=[]:=by simp [tH,k]
   rw [C,el]at H;refine ac ?_;refine R.fE (d++[q],z++v,L,some (keyS q)) ⟨i,H⟩ (hm:=kd) (l:=by(simp only [go_sem,e1,e4,e5]);all_goals(and_intros<;>first|rfl))
def wX(row:List V)(cols:List Int):List V:=cols.map λc=>row.getD c.toNat V.zero
def uI(p:Plan)(q:ByteArray×Ans):bQ:=[(wX q.2.row p.cols,q.2.ways)]
def XG(p:Plan)(facts:List dZ)(a:Nat)(M:AM)(P:(M.map (·.1)).Nodup)(hc:p.cols.length<=100000000)(hs:∀q∈M,∀c∈p.cols,0<=c/\c.toNat<q.2.row.length)(ho:okD (M.flatMap (uI p))):
  fV aa 183 [.pd (Sm p facts [a])] [(a,aN M)] [] (I8 (M.flatMap (uI p))):=by
 refine fV.mk Tryz.func183 λw G=>?_;refine ac ?_;refine R.makeMap rfl rfl rfl qn λr i j=>?_;have e1:=bV (eG (q:=a) (x:=.map (aN M)) j q9);clear j;apply ev8;simp only [go_sem,cW];repeat refine⟨qk,?_⟩
 refine R.BA M rfl rfl rfl qn rfl km xv λb J f=>?_;have e4:=bV (eG (q:=r) (x:=.map []) f q9);have e5:=bV (eG (q:=a) (x:=.map (aN M)) f km);clear J f;refine ac ?_;refine R.og (λ(y:AM×AM×bQ×Option Value) s=>{St.lp [1,2,3,14,42] [] [1] [] [] [] s with maps:=[(b,.it a (y.2.1.map keyS) y.2.2.2),(r,.map (aN (bW y.2.2.1))),(a,.map (aN M))]}) (λ(y:AM×AM×bQ×Option Value)=>(y.1++y.2.1).Perm M/\y.2.2.1.Perm ([]++y.1.flatMap (uI p))) (λ(y:AM×AM×bQ×Option Value)=>y.2.1.length) (([],M,[],none)) (⟨.refl _,qr⟩) (by(simp only [go_sem,Bz,e1,e4,e5]);all_goals(and_intros<;>first|rfl|simp)) ?_;rintro⟨D,left,L,N⟩ ⟨hp,hL'⟩;simp only at hp hL';refine ac ?_;refine R.J7 (m:=M) (r:=a) (cur:=N) (left:=left) (done:=D) P hp rfl rfl (ah qn) rfl q9 v9 (λhz0=>?_) (λT q Q hz0 n o=>?_)
 ·subst hz0
  have K:L.Perm (M.flatMap (uI p)):=ju;refine ar ?_;refine R.wu (vc:=True) [(r,aN (bW L))] rfl trivial ⟨r,L,rfl,rfl,K⟩ (λO Z h=>?_);simp only [lk]at h
  split at h
  ·rename_i e;subst e;cases h;exact⟨yv,.inr i⟩
  ·cases h
 ·refine ar ?_
  refine R.BD (p:=q) (left:=(T++Q).map keyS) (r:=a) P n rfl rfl (ah qn) rfl q9 v9 ?_;refine ac ?_;have u:=hs q n;refine R.fU (λ(k:Nat) s=>St.lp [1,2,3,5,14,22,23,37,38,39,40,42] [(24,.pd (I k)),(6,.own 1019)] [1,5] [] [] [(1019,⟨112,3,(wX q.2.row (p.cols.take k)).map val⟩)] s) (λ(k:Nat)=>k<=p.cols.length) (λ(k:Nat)=>p.cols.length-k) (0) qk ?_ (by(simp only [go_sem,e1,e4,e5]);all_goals(and_intros<;>rfl));rintro k hk;refine ai ?_;refine⟨λh=>?_,λh=>?_⟩
  ·have t:k<p.cols.length:=uu h
   obtain⟨h2,U⟩:=u p.cols[k] (am t);have E:((p.cols[k].toNat:Nat):Int)=p.cols[k]:=iz h2
   have v:wX q.2.row (p.cols.take (k+1))=wX q.2.row (p.cols.take k)++[q.2.row[p.cols[k].toNat]]:=by
    unfold wX;rw [bh t,bl];simp [U]
   have z:(wX q.2.row (p.cols.take k)).length=k:=by simp [wX];omega
   apply aI;simp only [go_sem,getD_map,t,U];repeat refine⟨qk,?_⟩
   refine R.iy 100000000 32 rfl rfl qn rfl rfl rfl rfl U3 rfl NW qr (congrArg (bB aR) NY) rfl TQ (by simp [z];omega) qu qu ?_;apply ev8;simp only [go_sem,wrapN (k:=k) qk];refine R.fE (k+1) qk (l:=by(simp only [go_sem,e1,e4,e5,v,bl,ap,ax]);all_goals(and_intros<;>first|rfl))
  ·have hge:¬k<p.cols.length:=uu h
   have C:p.cols.take k=p.cols:=bi qk;rw [C];refine ac ?_;have H:=rJ hL' q;have d:=yh (A:=[]) (g:=uI p) ho o hL';simp only [uI]at H d;refine R.dI 1019 rfl rfl ?_;simp only [go_sem];refine R.ig xp 60 xp rfl rfl (ah qn) zg (Es r L (wX q.2.row p.cols,q.2.ways) d) (λO Z h=>?_) (λO h=>?_) ?_
   ·simp only [lk]at h
    split at h
    ·rename_i e;subst e;cases h;simp [St.map,lk,e4]
    ·cases h
   ·simp only [bp]at h;subst h;exact⟨jx,.inl i⟩
   rintro X M' ⟨rfl,rfl⟩ hh;clear hh;simp only [Behind];apply ev8;simp only [go_sem,cI,e1,e4];refine R.fE (D++[q],T++Q,L++ [(wX q.2.row p.cols,q.2.ways)],some (keyS q)) ⟨o,H⟩ (hm:=kd) (l:=by(simp only [go_sem,e1,e4,e5]);all_goals(and_intros<;>first|rfl))
def qg(p:ByteArray×Ans):Option (ByteArray×Ans):=if(dH p.2.ways).length=0 then none else some (p.1,⟨p.2.row,dH p.2.ways⟩)
def fG(m:AM):AM:=m.filterMap qg
open Classical in
noncomputable def bK (D:List ByteArray) (m:AM):AM:=m.filterMap λ(p:ByteArray×Ans)=>if p.1∈D then qg p else some p
def OU(m:AM):bK [] m=m:=by simp [bK]
def OV(h:∀p∈m,p.1∈D):bK D m=fG m:=by
 unfold bK fG
 induction m with
 |nil=>rfl
 |cons p m i=>simp only [lz,af (h p (bk ..)),i (λq H=>h q (b3 _ H))]
def KY(D:List ByteArray):∀(m:AM),((bK D m).map (·.1)).Sublist (m.map (·.1))
 | []=>by simp [bK]
 |p::m=>by
  have i:=KY D m;unfold bK at i⊢;simp only [lz]
  by_cases h:p.1∈D
  ·simp only [af h,qg]
   split
   ·rename_i e;simp only [ap];exact i.cons _
   ·rename_i q e
    split at e
    ·cases e
    ·cases e;simp only [ap];exact i.cons_cons _
  ·simp only [ae h,ap];exact i.cons_cons _
def I9(h:(m.map (·.1)).Nodup):((bK D m).map (·.1)).Nodup:=(KY D m).nodup h
def OW(H:p∈m)(h:p.1∉D):p∈bK D m:=mB.2 ⟨p,H,by rw [ae h]⟩
def OX(D:List ByteArray)(a c:AM):bK D (a++c)=bK D a++bK D c:=by simp [bK]
def Ja{n:ByteArray}{a:AM}(h:∀p∈a,p.1≠n):bK (D++[n]) a=bK D a:=by
 induction a with
 |nil=>rfl
 |cons p a i=>
  have e:p.1∈D++[n]↔p.1∈D:=by simp [h p (bk ..)]
  have i:=i λq b=>h q (b3 _ b);unfold bK at i⊢;simp only [lz,i]
  by_cases H:p.1∈D
  ·rw [af H,af (e.2 H)]
  ·rw [ae H,ae (λd=>H (e.1 d))]
def XH{a c:AM}(H:((a++p::c).map (·.1)).Nodup)(h:p.1∉D):
  bK D (a++p::c)=bK D a++p::bK D c/\bK (D++[p.1]) (a++p::c)=bK D a++((qg p).toList++bK D c):=by
 simp only [bl,ap]at H;have H:=dq.1 H;have f:∀q∈a,q.1≠p.1:=λq b e=>H.2.2 q.1 (aq.2 ⟨q,b,rfl⟩) p.1 (bk ..) e;have d:∀q∈c,q.1≠p.1:=λq b e=>(dE.1 H.2.1).1 (e▸aq.2 ⟨q,b,rfl⟩);constructor
 ·rw [OX]
  congr 1
  unfold bK;rw [lz,ae h]
 ·rw [OX,Ja f]
  congr 1
  have e:=Ja (D:=D) d;unfold bK at e⊢;rw [lz,af qr,e]
  cases qg p<;>rfl
section
variable {C:Cx}{s:St}{all:Array Oper}{l:List Oper}{k:List KI}{o:Oper}
def R.Z2{left:AM}(n:(m.map (·.1)).Nodup)(H:∀p∈left,p∈m)(u:o.op= .next x false)(v:o.guard=none)(z:bU s o)(t:aO s x= .pd (.raw (.pointer (some ⟨b,0,none⟩))))(hit:s.map b=some (.it r (left.map keyS) cur))(hm:s.map r=some (.map (aN m)))
  (over:left=[]->R C (.ops all l::k) (s.put o.dst (.tpl [.raw (.bool false)])))
  (step:∀g p L,left=g++p::L->R C (.ops all l::k) (St.put {s with maps:=up b (.it r ((g++L).map keyS) (some (keyS p))) s.maps} o.dst (.tpl [.raw (.bool true),.raw (keyS p),ans p.2]))):R C (.ops all (o::l)::k) s:=by
 refine R.next u v z t hit hm (MQ m) (λh=>over (uu h)) (λg key L i D f d=>?_);obtain⟨a,c,q,rfl,A⟩:=B0.1 D;obtain⟨p,E,rfl,rfl,rfl⟩:=Bu.1 A;have j:p∈m:=H p (by rw [q];simp);have f:i<m.length:=uu f;rw [Ae m i f]at d;have e:m[i]=p:=WM n j f (by simpa [keyS]using d);rw [Ae m i f,e,<-bl];exact step a p E q
end
def kG(m:AM):Prop:=(∀p∈m,(dH p.2.ways).length<=400)/\(fG m).length<=1000
def rP(r:Nat)(m:AM)(o:(m.map (·.1)).Nodup)(ho:∀p∈m,Ea p.2.ways):
  fV aa 112 [.pd (mref r)] [(r,aN m)] [r] (λres M'=>(kG m/\res= .ret [mref r]/\M'=[(r,aN (fG m))])\/(¬kG m/\res= .nJ LIM/\M'=[])):=by
 refine fV.mk Tryz.func112 λw G=>?_;refine ac ?_;refine R.BA m rfl rfl rfl qn rfl q9 xv λb hb1 hb2=>?_;have e1:=bV hb1;clear hb2
 have Q:∀(m:AM),∀p∈aN m,cZ .string p.1=true:=by
  intro m p x;obtain⟨q,_,rfl⟩:=aq.1 x;rfl
 refine ac ?_;have hnil:aN m=aN (bK (([]:AM).map (·.1)) m):=by rw [ax,OU]
 refine R.og (λ(y:AM×AM×Option Value) s=>{St.lp [0,2,6,29,30,32] [] [] [] [] [] s with maps:=[(b,.it r (y.2.1.map keyS) y.2.2),(r,.map (aN (bK (y.1.map (·.1)) m)))]}) (λ(y:AM×AM×Option Value)=>(y.1++y.2.1).Perm m/\∀p∈y.1,(dH p.2.ways).length<=400) (λ(y:AM×AM×Option Value)=>y.2.1.length) (([],m,none)) (⟨.refl _,qr⟩) (by(simp only [go_sem,OU,e1]);all_goals(and_intros<;>first|rfl|simp)) ?_;rintro⟨d,left,cur⟩ ⟨x,v⟩;simp only at x v;have Qy:((bK (d.map (·.1)) m).map (·.1)).Nodup:=I9 o;have A3:((d++left).map (·.1)).Nodup:=(x.map _).nodup_iff.2 o
 have J:∀q∈left,q.1∉d.map (·.1):=by
  intro q N hd;rw [bl]at A3;exact(dq.1 A3).2.2 q.1 hd q.1 (aq.2 ⟨q,N,rfl⟩) rfl
 have z:∀q∈left,q∈m:=λq N=>x.mem_iff.1 (g9 _ N);refine ac ?_;refine R.Z2 (m:=bK (d.map (·.1)) m) (r:=r) (cur:=cur) (left:=left) Qy (λq N=>OW (z q N) (J q N)) rfl rfl (ah qn) rfl q9 km (λhz0=>?_) (λP q O hz0=>?_)
 ·subst hz0
  have U:bK (d.map (·.1)) m=fG m:=OV λp f=>by
   have:=x.mem_iff.2 f;exact aq.2 ⟨p,uu this,rfl⟩
  rw [U];have atd:∀p∈m,(dH p.2.ways).length<=400:=λp f=>v p (by have:=x.mem_iff.2 f;simpa using this);refine ar ?_;refine R.ar6 (m:=aN (fG m)) rfl rfl rfl (ah qn) rfl km xv ?_;apply ev8;simp only [go_sem,al];refine R.ig xp 60 xp rfl rfl (ah qn) ze (Qb ((fG m).length:Nat) 1000) (λr' m' h=>xc) (λr' h=>xy) ?_;rintro res M' ⟨rfl,H⟩ hh;clear hh
  by_cases L:((fG m).length:Int)<=1000
  ·rw [af L]at H;subst H
   simp only [Behind];apply ev8;simp only [go_sem,cI];refine R.wu (vc:=True) [(r,aN (fG m))] rfl trivial (.inl ⟨⟨atd,qk⟩,rfl,rfl⟩) (λr' m' h=>?_);simp only [lk]at h
   split at h
   ·rename_i e;subst e;cases h;exact⟨km,.inl qr⟩
   ·cases h
  ·rw [ae L]at H;subst H
   simp only [Behind];exactλa w E g=>sD (.inr ⟨λh=>L (by have:=h.2;omega),rfl,rfl⟩) g
 ·have NP:q∈left:=by rw [hz0];simp
  have n:=z q NP;obtain⟨a,c,X⟩:=qS n;have t:=XH (D:=d.map (·.1)) (a:=a) (c:=c) (p:=q) (by rw [<-X];exact o) (J q NP);rw [<-X]at t
  have f:((d++[q])++(P++O)).Perm m:=List.Perm.trans (by
   rw [hz0];simp only [cD,Bb];exact gD _ (lB.symm)) x
  have hD:(d++[q]).map (·.1)=d.map (·.1)++[q.1]:=qr
  have hqk:keyS q∉(P++O).map keyS:=by
   intro h;obtain⟨q',hq',e⟩:=aq.1 h;have e:q'.1=q.1:=by simpa [keyS]using e
   have Z:=(f.map (·.1)).nodup_iff.2 o;rw [bl]at Z;exact(dq.1 Z).2.2 q.1 qr q'.1 (aq.2 ⟨q',hq',rfl⟩) e.symm
  refine ar ?_;refine R.BD (p:=q) (left:=(P++O).map keyS) (r:=r) Qy (OW n (J q NP)) rfl rfl (ah qn) rfl q9 km ?_;refine ac ?_;refine R.kW (Fg q.2.ways (ho q n)) rfl rfl zd ?_;apply ev8;simp only [go_sem,al];have u:bK (d.map (·.1)) m=bK (d.map (·.1)) a++q::bK (d.map (·.1)) c:=t.1;have hi:(bK (d.map (·.1)) a).length<(aN (bK (d.map (·.1)) m)).length:=by rw [u];simp
  have T:((aN (bK (d.map (·.1)) m)).getD (bK (d.map (·.1)) a).length (undef,.ak []))=(keyS q,ans q.2):=by rw [u];simp [aN,keyS]
  refine⟨λM=>?_,λM=>?_⟩
  ·have M:(dH q.2.ways).length=0:=uu M
   have K:qg q=none:=by simp [qg,M]
   have j:(aN (bK (d.map (·.1)) m)).eraseIdx (bK (d.map (·.1)) a).length=aN (bK ((d++[q]).map (·.1)) m):=by
    rw [hD,t.2,K,u];simp [aN,List.eraseIdx_append_of_length_le]
   refine ac ?_;refine R.ar5 (i:=(bK (d.map (·.1)) a).length) (m:=aN (bK (d.map (·.1)) m)) rfl rfl rfl (ah qn) rfl km rfl mY rfl (Q _) (.inr (by simp [cmM])) hi (by rw [T]) (λb' left' cur' k=>?_) ?_
   ·simp only [St.map,lk]at k
    split at k
    ·cases k;exact hqk
    ·split at k<;>cases k
   rw [j];apply ev8;simp only [go_sem,e1,vZ]
   have WO:∀p∈d++[q],(dH p.2.ways).length<=400:=by
    intro p A;rcases cw.1 A with h|h
    ·exact v p h
    ·rw [bp.1 h];omega
   refine R.fE (d++[q],P++O,none) ⟨f,WO⟩ (hm:=kd) (l:=by(simp only [go_sem,e1]);all_goals(and_intros<;>first|rfl))
  ·have M:¬(dH q.2.ways).length=0:=uu M
   have K:qg q=some (q.1,⟨q.2.row,dH q.2.ways⟩):=by simp [qg,M]
   have j:(aN (bK (d.map (·.1)) m)).set (bK (d.map (·.1)) a).length (.string q.1,ans ⟨q.2.row,dH q.2.ways⟩)=aN (bK ((d++[q]).map (·.1)) m):=by
    rw [hD,t.2,K,u];simp [aN,rf]
   apply ev8;simp only [go_sem,al];refine R.ig xp 60 xp rfl rfl (ah qn) ze (Qb ((dH q.2.ways).length:Nat) 400) (λr' m' h=>xc) (λr' h=>xy) ?_;rintro res M' ⟨rfl,H⟩ hh;clear hh
   by_cases L:((dH q.2.ways).length:Int)<=400
   ·rw [af L]at H;subst H
    simp only [Behind];apply ev8;simp only [go_sem,cI];refine R.UH (i:=(bK (d.map (·.1)) a).length) (m:=aN (bK (d.map (·.1)) m)) (.inl rfl) rfl (ah qn) rfl km rfl rfl mY rfl (Q _) (.inr (by simp [cmM])) hi (by rw [T]) ?_;have C:(aN (bK (d.map (·.1)) m)).set (bK (d.map (·.1)) a).length (keyS q,ans ⟨q.2.row,dH q.2.ways⟩)=aN (bK ((d++[q]).map (·.1)) m):=j
    have WO:∀p∈d++[q],(dH p.2.ways).length<=400:=by
     intro p A;rcases cw.1 A with h|h
     ·exact v p h
     ·rw [bp.1 h];omega
    apply ev8;simp only [go_sem,e1,C];refine R.fE (d++[q],P++O,some (keyS q)) ⟨f,WO⟩ (hm:=kd) (l:=by(simp only [go_sem,e1]);all_goals(and_intros<;>first|rfl))
   ·rw [ae L]at H;subst H
    simp only [Behind];exactλa w E g=>sD (.inr ⟨λh=>L (by have:=h.1 q n;omega),rfl,rfl⟩) g
def uP(v:Int):W:=⟨[],[v]⟩
def zn(v:Int):W:=⟨[v],[]⟩
def tJ(y:W):List W:=y.pos.map uP++y.neg.map zn
def fH(l:List W):List W->Option (List W)
 | []=>some l
 |y::s=>if(dH (gQ l (tJ y))).length<=400 then fH (dH (gQ l (tJ y))) s else none
def KZ(y:W):∀(s l L:List W),fH l s=some L->fH l (s++[y])=if(dH (gQ L (tJ y))).length<=400 then some (dH (gQ L (tJ y)))else none
 | [],l,L,h=>by simp only [fH,bo]at h;subst h;simp only [cg,fH]
 |x::s,l,L,h=>by
  simp only [fH]at h
  split at h
  ·rename_i H;simp only [bE,fH,af H];exact KZ y s _ L h
  ·cases h
def La(y:W)(zs:List W):∀(s l L:List W),fH l s=some L->¬(dH (gQ L (tJ y))).length<=400->fH l (s++y::zs)=none
 | [],l,L,h,H=>by simp only [fH,bo]at h;subst h;simp only [cg,fH,ae H]
 |x::s,l,L,h,H=>by
  simp only [fH]at h
  split at h
  ·rename_i a;simp only [bE,fH,af a];exact La y zs s _ L h H
  ·cases h
def mG(n:Nat)(w:W):Prop:=w.pos.length<=n/\w.neg.length<=n
def MR{l:List W}{x:W}(h:x∈dH l):∃y∈l,x=nO y:=by
 have H:x∈gG l:=by
  have:x∈(gG l).filter (Zc (gG l)):=(wE jB x _).1 h;exact(cG.1 this).1
 simp only [gG,cG,aq]at H;obtain⟨⟨y,a,rfl⟩,_⟩:=H;exact⟨y,a,rfl⟩
def Ga{n:Nat}{w:W}(h:mG n w):mG n (nO w):=⟨bz (xR _) h.1,bz (xR _) h.2⟩
def K6{n:Nat}{l:List W}(h:∀w∈l,mG n w):∀w∈dH l,mG n w:=by
 intro w a;obtain⟨y,H,rfl⟩:=MR a;exact Ga (h y H)
def MS{y w:W}(h:w∈tJ y):mG 1 w:=by
 simp only [tJ,cw,aq]at h;rcases h with⟨v,_,rfl⟩|⟨v,_,rfl⟩<;>exact⟨by simp [uP,zn],by simp [uP,zn]⟩
def Jb{n m:Nat}{a b:List W}(f:∀w∈a,mG n w)(e:∀w∈b,mG m w):∀w∈gQ a b,mG (n+m) w:=by
 intro w h;simp only [gQ,dC,aq]at h;obtain⟨x,d,y,H,rfl⟩:=h;have i:=f x d;have g:=e y H;simp only [mG,wW,bd]at*
 omega
def OY{n:Nat}:∀(s l L:List W),fH l s=some L->(∀w∈l,mG n w)->l.length<=400->(∀w∈L,mG (n+s.length) w)/\L.length<=400
 | [],l,L,h,H,a=>by simp only [fH,bo]at h;subst h;exact⟨uu H,a⟩
 |y::s,l,L,h,H,a=>by
  simp only [fH]at h
  split at h
  ·rename_i b
   have:=OY (n:=n+1) s _ L h (K6 (Jb H λw=>MS)) b;have e:n+(y::s).length=n+1+s.length:=qz;rw [e];exact this
  ·cases h
def Jc(m:AM):Prop:=∀q∈m,q.2.ways.length<=400/\∀w∈q.2.ways,mG 1000000 w
def jH(m:AM)(q:ByteArray×Ans):Option (List W):=fH q.2.ways ((qc q.1 m).getD [])
def lU(m:AM)(q:ByteArray×Ans):bQ:=[(q.2.row,(jH m q).getD [])]
def F8(H:(m.map (·.1)).Nodup)(h:p∈m):qc p.1 m=some p.2.ways:=by
 induction m with
 |nil=>simp at h
 |cons q m i=>
  obtain⟨n,a⟩:=q;simp only [ap,dE]at H;simp only [qc];rcases b8.1 h with rfl|h
  ·simp
  ·have:n≠p.1:=λe=>H.1 (e▸aq.2 ⟨p,h,rfl⟩)
   rw [ae this];exact i H.2 h
def yE{n:ByteArray}:∀{m:AM},(∀p∈m,p.1≠n)->qc n m=none
 | [],_=>rfl
 |(N,a)::m,h=>by
  have b:N≠n:=h (N,a) (bk ..);simp only [qc,ae b];exact yE λp H=>h p (b3 _ H)
def vD{α:Type}(k:Nat)(x y:α):∀(l:List (Nat×α)),up k x (up k y l)=up k x l
 | []=>by simp [up]
 |(j,z)::l=>by
  simp only [up]
  split
  ·simp [up]
  ·rename_i h;simp [up,h,vD k x y l]
def Su:DW (.ak [NIL,NIL]) (ans ⟨[],[]⟩):=.ak (.cons (.nil 3) (.cons (.nil 2) .nil))
def R.lookA{C:Cx}{s:St}{l:List Oper}{k:List KI}{o:Oper}{K:Operand}{n:ByteArray}(m:AM)(P:C.P=aa)(f:(m.map (·.1)).Nodup)(J:o.op= .lookup 144 x K false)(L:o.guard=none)(hd:o.dst=some d)(hn:d<s.n)(G:aO s x= .pd (mref r))(hm:s.map r=some (.map (aN m)))
  (b:aO s K= .pd (S n))
  (next:∀a:Ans,a.ways=(qc n m).getD []->(a.ways=[]\/∃q∈m,a=q.2)->R C (.ops all l::k) (s.set d (.pd (ans a)))):R C (.ops all (o::l)::k) s:=by
 have z:bU s o:=λt ht=>wg
 have j:∀k∈(aN m).map (·.1),cZ .string k=true:=by
  intro k b;rw [CP]at b;obtain⟨p,A,rfl⟩:=aq.1 b;rfl
 by_cases v:∃q∈m,q.1=n
 ·obtain⟨q,D,rfl⟩:=v
  have Q:((aN m).map (·.1)).Nodup:=by
   rw [CP];simp only [List.Nodup,eg]at f⊢;exact f.imp λh e=>h (by simpa [keyS]using e)
  obtain⟨i,E,u⟩:=bN D
  have H:rU C.P 74 .string (.string q.1) ((aN m).map (·.1)) ((aN m).map (·.2)) true (ans q.2):=by
   refine⟨rfl,j,Q,i,uu E,?_,?_⟩
   ·simp [E,u]
   ·simp [E,u]
  refine R.BP (ok:=false) J L z G hm b (by rw [P];exact mY) H ?_;have:=next q.2 (by rw [F8 f D];rfl) (.inr ⟨q,D,rfl⟩)
  simpa [St.put,hd]using this
 ·have g:∀p∈m,p.1≠n:=λp A e=>v ⟨p,A,e⟩
  have H:rU C.P 74 .string (.string n) ((aN m).map (·.1)) ((aN m).map (·.2)) false (.ak [NIL,NIL]):=by
   refine⟨rfl,λk b=>⟨j k b,λe=>?_⟩,by rw [P];exact oE⟩;rw [CP]at b;obtain⟨p,A,rfl⟩:=aq.1 b;exact g p A (by simpa [keyS]using e)
  refine R.BP (ok:=false) J L z G hm b (by rw [P];exact mY) H ?_;have:=next ⟨[],[]⟩ (by rw [yE g];rfl) (.inl rfl)
  simp only [St.put,hd,ba,b6];refine R.up d hn (by simp [St.get,St.set,jR]) Su ?_;have e:((s.set d (.pd (.ak [NIL,NIL]))).set d (.pd (ans ⟨[],[]⟩)))=s.set d (.pd (ans ⟨[],[]⟩)):=by simp [St.set,vD]
  rw [e];exact this
def Z3(i:Int):DW (.list 2 [.ak [NIL,ints [i]]]) (ways [uP i]):=
 .list 2 rfl (λj h=>by
  have:j=0:=uu h;subst this;exact⟨_,_,rfl,rfl,.cons (.nil 1) (.cons (.same _) .nil)⟩)
def Gb(p:Plan)(facts:List dZ)(u Z:Nat)(f M:AM)(h12:u≠Z)(n1:(f.map (·.1)).Nodup)(n2:(M.map (·.1)).Nodup)(s1:Jc f)(s2:Jc M)(ho:okD (f.flatMap (lU M))):
  fV aa 186 [.pd (Sm p facts [u,Z])] [(u,aN f),(Z,aN M)] [] (λres M'=>if∀q∈f,(jH M q).isSome=true then I8 (f.flatMap (lU M)) res M' else res= .nJ LIM/\M'=[]):=by
 have hz:=bV h12;refine fV.mk Tryz.func186 λw G=>?_;refine ac ?_;refine R.makeMap rfl rfl rfl qn λr hr1 P=>?_;have e1:=bV (eG (q:=u) (x:=.map (aN f)) P q9);have e2:=bV (eG (q:=Z) (x:=.map (aN M)) P (by simp [St.map,lk,hz]));clear P;apply ev8;simp only [go_sem,cW];repeat refine⟨qk,?_⟩
 refine R.BA f rfl rfl rfl qn rfl km xv λb X o=>?_;have e4:=bV (eG (q:=r) (x:=.map []) o q9);have e5:=bV (eG (q:=u) (x:=.map (aN f)) o km);have e6:=bV (eG (q:=Z) (x:=.map (aN M)) o (by simp [St.map,lk,e2,hz]));clear X o;refine ac ?_;refine R.og (λ(y:AM×AM×bQ×Option Value) s=>{St.lp [1,2,3,19,80] [] [1] [] [] [] s with maps:=[(b,.it u (y.2.1.map keyS) y.2.2.2),(r,.map (aN (bW y.2.2.1))),(u,.map (aN f)),(Z,.map (aN M))]}) (λ(y:AM×AM×bQ×Option Value)=>(y.1++y.2.1).Perm f/\y.2.2.1.Perm ([]++y.1.flatMap (lU M))/\∀q∈y.1,(jH M q).isSome=true) (λ(y:AM×AM×bQ×Option Value)=>y.2.1.length) (([],f,[],none)) (⟨.refl _,qr,qr⟩) (by(simp only [go_sem,Bz,e1,e2,e4,e5,e6,hz]);all_goals(and_intros<;>first|rfl|simp)) ?_;rintro⟨D,left,L',cur⟩ ⟨hp,hL',U⟩;simp only at hp hL' U;refine ac ?_;refine R.J7 (m:=f) (r:=u) (cur:=cur) (left:=left) (done:=D) n1 hp rfl rfl (ah qn) rfl q9 v9 (λhz0=>?_) (λl1 q l2 hz0 Q hp2=>?_)
 ·subst hz0
  have hL2:L'.Perm (f.flatMap (lU M)):=ju;have hall:∀q∈f,(jH M q).isSome=true:=λq hq=>U q (by have:=hp.mem_iff.2 hq;simpa using this);refine ar ?_;refine R.wu (vc:=True) [(r,aN (bW L'))] rfl trivial (by rw [af hall];exact⟨r,L',rfl,rfl,hL2⟩) (λr' m' h=>?_);simp only [lk]at h
  split at h
  ·rename_i e;subst e;cases h;exact⟨yv,.inr hr1⟩
  ·cases h
 ·refine ar ?_
  refine R.BD (p:=q) (left:=(l1++l2).map keyS) (r:=u) n1 Q rfl rfl (ah qn) rfl q9 v9 ?_;apply ev8;simp only [go_sem,Int.toNat_one];repeat refine⟨qk,?_⟩
  refine R.lookA M rfl n2 rfl rfl rfl qn rfl (by simp [St.map,lk,e2,e6,hz]) rfl λa ha ham=>?_;have hq1:=s1 q Q
  have hya:a.ways.length<=400/\∀w∈a.ways,mG 1000000 w:=by
   rcases ham with h|⟨q',hq',rfl⟩
   ·rw [h];simp
   ·exact s2 q' hq'
  have hmq:jH M q=fH q.2.ways a.ways:=by rw [jH,ha]
  refine ac ?_;refine R.fU (λ(z:Nat×List W) s=>St.lp [1,2,3,5,19,33,34,75,76,77,78,80] [(35,.pd (I z.1)),(6,.pd (ways z.2))] [1,5] [] [] [] s) (λ(z:Nat×List W)=>z.1<=a.ways.length/\fH q.2.ways (a.ways.take z.1)=some z.2) (λ(z:Nat×List W)=>a.ways.length-z.1) ((0,q.2.ways)) (⟨ui,by simp [fH]⟩) ?_ (by(simp only [go_sem,e1,e2,e4,e5,e6,hz]);all_goals(and_intros<;>rfl));rintro⟨k,l⟩ ⟨hk,T⟩;simp only at hk T;obtain⟨hll,hl4⟩:=OY (n:=1000000) _ _ _ T hq1.2 hq1.1;refine ai ?_;refine⟨λh=>?_,λh=>?_⟩
  ·have C:k<a.ways.length:=uu h
   have v:=hya.2 a.ways[k] (am C);have htk:=bh C;have hdk:a.ways=a.ways.take k++a.ways[k]::a.ways.drop (k+1):=by rw [<-drop_cons C,cK]
   have O:=KZ a.ways[k] _ _ _ T;have hnn:=La a.ways[k] (a.ways.drop (k+1)) _ _ _ T;rw [<-htk]at O;rw [<-hdk,<-hmq]at hnn
   have As:∀w∈l,mG 1000400 w:=λw N=>by
    have h1:=hll w N;have h2:(a.ways.take k).length<=400:=by rw [fb];omega
    unfold mG at*;omega
   refine z7 C ?_;generalize a.ways[k]=y at*
   have hyp:=v.1;have hyn:=v.2;have hn1:y.pos.length<=1000000:=v.1;have hn2:y.neg.length<=1000000:=v.2;refine R.mV 9 9 164 2 qn rfl rfl ?_;simp only [go_sem];refine R.fU (λ(j:Nat) s=>St.lp [1,2,3,5,6,8,13,19,33,34,35,40,41,53,54,55,56,57,58,59,60,61,62,63,64,65,66,67,68,69,70,71,72,74,75,76,77,78,80] [(42,.pd (I j)),(9,.own 9)] [1,5,8] [] [] [(9,⟨164,2,((y.pos.take j).map uP).map way⟩)] s) (λ(j:Nat)=>j<=y.pos.length) (λ(j:Nat)=>y.pos.length-j) (0) qk ?_ (by(simp only [go_sem,e1,e2,e4,e5,e6,hz]);all_goals(and_intros<;>rfl));rintro j hj;refine ai ?_;refine⟨λh3=>?_,λh3=>?_⟩
   ·have L:j<y.pos.length:=uu h3
    have ate:(y.pos.take (j+1)).map uP=(y.pos.take j).map uP++[uP y.pos[j]]:=by rw [bh L,bl];rfl
    refine z7 L ?_;refine R.up 50 qn rfl (Z3 _) ?_;simp only [go_sem];refine R.iy (d:=way (uP y.pos[j])) 1000000000 48 rfl rfl qn rfl rfl rfl rfl LQ rfl zI qr (congrArg (bB aR) Fa) rfl E8 qz qu qu ?_;apply ev8;simp only [go_sem,wrapN (k:=j) qk];refine R.fE (j+1) qk (l:=by(simp only [go_sem,e1,e2,e4,e5,e6,hz,ate,bl,ap,ax]);all_goals(and_intros<;>first|rfl))
   ·have atf:y.pos.take j=y.pos:=bi (by have:¬j<y.pos.length:=by simpa using h3
                                        omega)
    rw [atf];refine ac ?_;have h0:(y.pos.map uP).map way=(y.pos.map uP++(y.neg.take 0).map zn).map way:=qr;refine R.fU (λ(j:Nat) s=>St.lp [1,2,3,5,6,19,33,34,35,54,55,67,68,69,70,71,72,74,75,76,77,78,80] [(56,.pd (I j)),(9,.own 9)] [1,5,8] [] [] [(9,⟨164,2,(y.pos.map uP++(y.neg.take j).map zn).map way⟩)] s) (λ(j:Nat)=>j<=y.neg.length) (λ(j:Nat)=>y.neg.length-j) (0) qk ?_ (by(simp only [go_sem,e1,e2,e4,e5,e6,hz,h0]);all_goals(and_intros<;>rfl));rintro i hi;refine ai ?_;refine⟨λh4=>?_,λh4=>?_⟩
    ·have K:i<y.neg.length:=uu h4
     have atg:(y.neg.take (i+1)).map zn=(y.neg.take i).map zn++[zn y.neg[i]]:=by rw [bh K,bl];rfl
     refine z7 K ?_;refine R.up 64 qn rfl (vB _) ?_;simp only [go_sem];refine R.iy (d:=way (zn y.neg[i])) 1000000000 48 rfl rfl qn rfl rfl rfl rfl LQ rfl zI qr (congrArg (bB aR) Fa) rfl E8 qz qu qu ?_;apply ev8;simp only [go_sem,wrapN (k:=i) qk];refine R.fE (i+1) qk (l:=by(simp only [go_sem,e1,e2,e4,e5,e6,hz,atg,bl,cD,ap,ax]);all_goals(and_intros<;>first|rfl))
    ·have hge4:y.neg.take i=y.neg:=bi (by have:¬i<y.neg.length:=by simpa using h4
                                          omega)
     rw [hge4];have hnw:y.pos.map uP++y.neg.map zn=tJ y:=rfl;rw [hnw];have hnl:(tJ y).length<=2000000:=by simp [tJ];omega
     have X:=WJ l (tJ y) (λw N=>by have:=As w N;unfold mG Qx at*;omega) (λw N=>by have:=MS N;unfold mG Qx at*;omega) qk qk (by
      have:=nj hl4 hnl;omega)
     have o:=Fg (gQ l (tJ y)) ⟨by rw [CO];have:=nj hl4 hnl;omega,λw N=>by have:=Jb As (λw=>MS) w N;unfold mG okW at*;omega⟩;refine ac ?_;refine R.dI 9 rfl rfl ?_;simp only [go_sem];refine R.kW (X) rfl rfl ze ?_;refine ac ?_;refine R.kW (o) rfl rfl zd ?_;apply ev8;simp only [go_sem,al];refine R.ig xp 60 xp rfl rfl (ah qn) ze (Qb ((dH (gQ l (tJ y))).length:Nat) 400) (λr' m' h=>xc) (λr' h=>xy) ?_;rintro res M' ⟨rfl,H⟩ hh;clear hh
     by_cases hc:((dH (gQ l (tJ y))).length:Int)<=400
     ·rw [af hc]at H;subst H
      rw [af qk]at O;simp only [Behind];apply ev8;simp only [go_sem,cI,wrapN (k:=k) qk];refine R.fE (k+1,dH (gQ l (tJ y))) ⟨yz,O⟩ (hm:=vj) (l:=x4)
     ·rw [ae hc]at H;subst H
      simp only [Behind];refineλa w E g=>sD ?_ g;rw [ae (λh=>by have:=h q Q;rw [hnn qk]at this;cases this)];exact⟨rfl,rfl⟩
  ·have hke:a.ways.take k=a.ways:=bi (by have:¬k<a.ways.length:=by simpa using h
                                         omega)
   rw [hke,<-hmq]at T;have t:=rJ (g:=lU M) hL' q;have J:=yh (A:=[]) (g:=lU M) ho hp2 hL';have hg:lU M q=[(q.2.row,l)]:=by simp [lU,T]
   rw [hg]at t J
   have WO:∀q'∈D++[q],(jH M q').isSome=true:=by
    intro q' h;rcases cw.1 h with h|h
    ·exact U q' h
    ·rw [bp.1 h,T];rfl
   refine ac ?_;refine R.ig xp 60 xp rfl rfl (ah qn) zg (Es r L' (q.2.row,l) J) (λr' m' h=>?_) (λr' h=>?_) ?_
   ·simp only [lk]at h
    split at h
    ·rename_i e;subst e;cases h;simp [St.map,lk,e4]
    ·cases h
   ·simp only [bp]at h;subst h;exact⟨jx,.inl hr1⟩
   rintro res M' ⟨rfl,rfl⟩ hh;clear hh;simp only [Behind];apply ev8;simp only [go_sem,cI,e1,e2,e4];refine R.fE (D++[q],l1++l2,L'++ [(q.2.row,l)],some (keyS q)) ⟨hp2,t,WO⟩ (hm:=kd) (l:=x4)
end Go.Proofs.Z
