/- A part of the proof. -/
import Derived.Test.YtgeljjfmcmbejaaGreatDoorPDet
import Derived.Lib.JoinLaws
import Derived.Test.YtgeljjfmcmbejaaGreatDoorPVs
set_option linter.all false
set_option linter.deprecated false
open Array renaming replicate→bw,length_toList→cb
open Go renaming wpList_plain→bA
open Go.Oper renaming wp→b5,upon_value→ci
open Go.Result renaming andThen_ok→a8
open Go.Sem renaming run_bind→az,run_pure→aD
open Int renaming cast_ofNat_Int→e9,reduceBNe→nx,toNat_zero→cW,reduceToNat→fW,reduceLT→fo,reduceLE→fp,reduceAdd→iS,reduceSub→na
open List renaming range→aw,length→aR
set_option maxRecDepth 100000
set_option maxHeartbeats 4000000
namespace Go.au
variable {t e src dst:TypeId}{x:Operand}
def Rn{P:Program}{f:FuncId}{fn:Func}{c:Code}{args:List SV}{w:World}{G:Pub}{vals:Array Value}{Q:Ending->World->Prop}(d:P.funcs[f]? =some fn)(j:fn.body=some c)(q:args.length<=fn.ntmps)(H:Good w G)(s:vals.size=args.length)
  (v:∀i,i<args.length->iR P w G (vals.getD i undef) (args.getD i .dead))(h:R (Cx.seg P w G (bodyPost P fn Q) []) [.code c] (St.bZ fn.ntmps args [])):Calls P f vals w Q:=by
 refine calls_of_wp d j ?_
 let E:Env:=⟨G,λ_=>0,λ_=>none,λ_=>0⟩
 have hget:∀t,(St.bZ fn.ntmps args []).get t=args.getD t .dead:=by
  intro t;simp only [St.get,St.bZ,mW];simp [ag]
 have jk:∀t,iR P w G ((vals++bw (fn.ntmps-vals.size) undef).getD t undef) (args.getD t .dead):=by
  intro t
  by_cases ht:t<args.length
  ·have k:t<vals.size:=qk
   have:(vals++bw (fn.ntmps-vals.size) undef).getD t undef=vals.getD t undef:=by
    simp only [aL,eN k]
   rw [this];exact v t ht
  ·have:args.getD t .dead= .dead:=vm
   rw [this];trivial
 have n:∀t cs,(St.bZ fn.ntmps args []).get t≠.box cs:=λt cs=>xi
 have g:aB (Cx.seg P w G (bodyPost P fn Q) []) (St.bZ fn.ntmps args []) {tmps:=vals++bw (fn.ntmps-vals.size) undef,defers:=[]} w E:={
  kept:=Kept.refl _ _ _
  aV:=λt=>by simp only [St.dR,St.bZ,lk,Option.getD_none];trivial
  maps:=λr m h=>by simp [St.map,St.bZ,lk]at h
  aZ:=λt b h=>xa
  bM:=λi p h=>xa
  bI:=λi r p h=>k9
  defers:=rfl
  size:=jt
  g0:=λ_ _ h=>h
  g1:=λ_ _ h=>.inl h
  tab:=H.tab
  gw:=H.lt
  slots:=λt=>ky
  vars:=λt cs h=>ja
  rows:=λi r h=>k9
  boxes:=λt cs h=>(n t cs h).elim
  vv:=λt T cs C h=>ja
  rr:=λi o r l p h=>k9
  vr:=λt cs i r p h=>ja
  bb:=λt T cs C h=>(n t cs h).elim
  bv:=λt T cs C h=>(n t cs h).elim
  br:=λt cs i r p h=>(n t cs h).elim}
 have:=h _ w E g;simp only [fin]at this;exact wp_mono this (λe a w h=>h)
def sX{α:Type}(k:Nat)(x y:α):∀(l:List (Nat×α)),up k x (up k y l)=up k x l
 | []=>by simp [up]
 |(j,z)::l=>by
  simp only [up]
  split
  ·simp [up]
  ·rename_i h;simp [up,h,sX k x y l]
section
variable {C:Cx}{s:St}{a:Act}{w w':World}{E:Env}{k:List KI}{all:Array Oper}{l:List Oper}{o:Oper}
def R.Im{y:Operand}{k1 k2:IntKind}{d n by':Nat}{z:Value}(id:Nat)(hid:C.fP id=none)(M:o.op= .makeSlice t x y)(N:o.guard=none)(O:o.dst=some d)(hn:d<s.n)(J:aO s x= .pd (.raw (.int k1 0)))(G:aO s y= .pd (.raw (.int k2 n)))
  (L:eu C.P t=some e)(hi:(C.P.info? e).map (λi=>(i.zero,i.size,i.bytes))=some (some z,1,by'))(D:z.cells= #[z])(A:by'*n<=281474976710656)(q:n<=maxLen)
  (next:R C (.ops all l::k) ((s.newRow id ⟨e,1,[]⟩).set d (.own id))):R C (.ops all (o::l)::k) s:=by
 intro a w E g;refine bA N λK Q=>?_;have u:=aT g x;rw [J]at u;have r:=aT g y;rw [G]at r;have u:=aH.aC u;have r:=aH.aC r;have f:=run_make_room (P:=C.P) t e z by' (iJ L) hi D k1 k2 n A (by simpa [maxLen]using q) w;unfold b5 execOp;simp only [M,u,r,az,f,a8,aD,ci];simp only [O];have H:(madeCells #[z] n).size=n:=size_madeCells _ _
 have T:=g.row (i:=id) (r':=⟨e,1,[]⟩) (w':=w.alloc (.cells (madeCells #[z] n) e)) (some (w.heap.size,n)) (Keeps.of_below g.gw (bF w _) (λ_ _ h=>h)) (g.kept.trans (.of_below (bF w _))) qr (λp hp=>j6)
  (λb A _=>heap_alloc_old w _ A) (.inr ⟨w.heap.size,n,_,rfl,⟨.inl g.kept.size,λn hn=>w7,heap_alloc_new w _⟩,by simp [H],qr,q,λk v=>by simp at v,λk j v U=>by simp at v⟩) (λb c h=>vl)
 exact Q _ _ (next _ _ _ (T.put hn (λr' m=>.inr ⟨w.heap.size,n,qr,by
  rw [St.iY,af rfl]at m;cases m;simp⟩) qr))
def R.VG{bs:List UInt8}(u:o.op= .convert src dst x)(z:o.guard=none)(D:bU s o)(n:aO s x= .pd (.list 1 (bs.map λc=>.raw (.int .u8 (c.toNat:Int)))))
  (q:eu C.P src=some e)(A:Ew C.P e=some .u8)(t:Eu C.P dst=true)(d:bs≠[])
  (next:R C (.ops all l::k) (s.put o.dst (.pd (.raw (.string ⟨bs.toArray⟩))))):R C (.ops all (o::l)::k) s:=by
 refine R.uh z D qr (λa w E g=>?_) next
 have i:=aT g x;rw [n]at i;refine⟨.string ⟨bs.toArray⟩,?_,.raw _ rfl⟩;rcases Rd.jM i with⟨_,_,m⟩|⟨b,off,p,f,_,_,L,r⟩
 ·simp at m;exact(d m).elim
 ·have h:=run_convert_bytes_back (P:=C.P) w src dst e ⟨b,off,none⟩ p bs (iJ q) (EF A) (xC t) (λj hj=>by
   obtain⟨_,v,J,H⟩:=r j (uu hj) 0 (by simp [hj,PD.width]);have K:(bs.map λc=>PD.raw (.int .u8 (c.toNat:Int))).getD j (.ak [])= .raw (.int .u8 (bs[j].toNat:Int)):=j5;rw [K]at H;have H:=aH.aC (G:=E.G) (w:=w) H;subst H;rw [addr_add];simpa using J)
  simp only [al]at f;unfold execOp;simp [u,f,h]
def R.Qj{b:ByteArray}(T:C.dr=false)(N:o.op= .convert src dst x)(O:o.guard=none)(U:bU s o)(G:aO s x= .pd (.raw (.string b)))
  (M:Eu C.P src=true)(J:eu C.P dst=some e)(Q:Ew C.P e=some .u8)(X:b.size<=maxLen)
  (next:R C (.ops all l::k) (s.put o.dst (.pd (.list 1 (b.data.toList.map λc=>.raw (.int .u8 (c.toNat:Int))))))):R C (.ops all (o::l)::k) s:=by
 intro a w E g;refine bA O λK Z=>?_;have t:=aT g x;rw [G]at t;have t:=aH.aC t;have n:=run_bytes_of_string (P:=C.P) w src dst e b (xC M) (iJ J) (EF Q);unfold b5 execOp;simp only [N,t,az,n,a8,aD,ci];generalize H:grownCap w b.size 0 e=cap;have p:b.size<=cap:=by rw [<-H];exact grownCap_ge _ _ _ _
 have D:cap<=maxLen:=by rw [<-H];exact grownCap_le_maxLen _ _ _ _ X
 generalize d:w.drew.alloc (.cells (bytesRow b cap) e ((bytesRow b cap).size,(bytesRow b cap).size+1))=w'
 have r:Below w.heap.size w w':=by
  rw [<-d];exact((Below.refl _ w).drew).alloc (a3 _) _
 have L:w'.heap.size=w.heap.size+1:=by rw [<-d];simp
 have g1:=g.grow r (λq o=>E.G q o\/q=w.heap.size) (λ_ _ h=>.inl h) (λq o h=>by
  rcases h with h|h
  ·exact .inl h
  ·exact .inr ⟨qk,qk⟩)
 have m:b.data.toList.length=b.size:=cb
 have v:Rd w' (λq o=>E.G q o\/q=w.heap.size) (.slice (some ⟨w.heap.size,0,none⟩) b.size cap) (.list 1 (b.data.toList.map λc=>.raw (.int .u8 (c.toNat:Int)))):=by
  have e0:b.size=(b.data.toList.map λc=>PD.raw (.int .u8 (c.toNat:Int))).length:=by rw [al,m]
  rw [e0]at p⊢;refine Rd.nV p D (λi f=>?_) (λi f=>?_)
  ·simp only [al]at f
   rw [ag,cU,ca f];rfl
  ·simp only [al]at f
   have e1:(b.data.toList.map λc=>PD.raw (.int .u8 (c.toNat:Int))).getD i (.ak [])= .raw (.int .u8 (b.data.toList[i].toNat:Int)):=by
    rw [ag,cU,ca f];rfl
   rw [e1];intro j z;have z:j=0:=by simpa [PD.width]using z
   subst z;refine⟨.inr rfl,.int .u8 (b.data.toList[i].toNat:Int),?_,.raw _ rfl⟩;rw [<-d];have A:i<b.data.size:=by rw [cb]at f;exact f
   have:=World.cell?_alloc_mark w.drew (bytesRow b cap) e ((bytesRow b cap).size,(bytesRow b cap).size+1) i;have u:w.drew.heap.size=w.heap.size:=rfl;rw [u]at this;simp only [cQ,cx,Nat.add_zero];rw [this,bytesRow_at b cap i A];simp
 exact Z _ _ (next _ _ _ (g1.eY U v qr))
def R.DS{f d1 d2 n i y:Nat}{r:Row}{zs:List Value}{X o2 o3:Oper}(h1:X.op= .build t #[(f,.tmp y)])(hg1:X.guard=none)(hd1:X.dst=some d1)(h2:o2.op= .alloc t)(hg2:o2.guard=none)(hd2:o2.dst=some d2)(h3:o3.op= .store t (.tmp d2) (.tmp d1))(hg3:o3.guard=none)(hd3:o3.dst=none)
  (O:d1<s.n)(u:d2<s.n)(hne:d1≠d2)(Z:y≠d1)(M:y≠d2)(hv0:C.vb0 d2=none)(hy:s.get y= .own i)(hr:s.row i=some r)(hz:bG C.P t=some zs)(o:∀v∈zs,v.oneCell'=true)(hsz:aP C.P t=zs.length)(hn:n<zs.length)
  (hb:∀p m c w,(Instr.build t #[(f,.slice p m c)]).run C.P w= .ok (.agg (zs.toArray.setIfInBounds n (.slice p m c))) w)
  (next:R C (.ops all l::k) (((s.set d1 .dead).set d2 (.box zs)).newVar d2 ((zs.map λv=>.pd (.raw v)).set n (.own i))))(asN:d2 % 10000<9000:=by decide):R C (.ops all (X::o2::o3::l)::k) s:=by
 intro a w E g
 have q:∃p m c,a.tmps.getD y undef= .slice p m c:=by
  have:=g.slots y;rw [hy]at this;rcases this r hr with⟨_,h⟩|⟨b,cap,_,h⟩
  ·exact⟨_,_,_,h⟩
  ·exact⟨_,_,_,h⟩
 obtain⟨p,m,c,q⟩:=q;have hys:y<s.n\/s.n<=y:=qk;generalize d:zs.toArray.setIfInBounds n (.slice p m c)=cells;have T:cells.size=zs.length:=by rw [<-d];simp
 have H:=g.size;refine bA hg1 λK hK=>?_
 have N:(execOp a.eval X).run C.P w= .ok (.value (.agg cells)) w:=by
  unfold execOp;simp only [h1,cA,ap,ax,Act.eval,az];have:(Instr.build t #[(f,a.tmps.getD y undef)]).run C.P w= .ok (.agg cells) w:=by rw [q,hb,d]
  rw [this];rfl
 unfold b5;rw [N,ci,hd1];refine hK _ _ ?_;have g1:=g.dead (t:=d1) O (.agg cells);refine bA hg2 λK2 hK2=>?_;obtain⟨z,G5,hzc⟩:=yH (P:=C.P) (w:=w) hz;have x:z.cells=zs.toArray:=by rw [<-hzc]
 unfold b5 execOp;simp only [h2,az,Instr.alloc,G5,a8,aD,newVar,newRow,run_newObj,ci,x,hd2];refine hK2 _ (w.alloc (.cells zs.toArray t)) ?_;have g2:=g1.box (t:=d2) (by exact u) zs o t;have g3:=g2.so (t:=d2) (zs:=zs) hv0 (by simp [St.fO]);refine bA hg3 λK3 hK3=>?_;generalize hE:({G:=E.G,vb:=λj=>if j=d2 then(λj=>if j=d2 then w.heap.size else E.bx j) d2 else E.vb j,rb:=E.rb,bx:=λj=>if j=d2 then w.heap.size else E.bx j}:Env)=E3 at*
 have hvb:E3.vb d2=w.heap.size:=by rw [<-hE];simp
 have D:(((s.set d1 .dead).set d2 (.box zs)).newVar d2 (zs.map λv=>.pd (.raw v))).var d2=some (zs.map λv=>.pd (.raw v)):=by simp [St.EC]
 have U:aB C (((s.set d1 .dead).set d2 (.box zs)).newVar d2 (zs.map λv=>.pd (.raw v))) ((a.put (some d1) (.agg cells)).put (some d2) (.pointer (some ⟨w.heap.size,0,none⟩))) (w.alloc (.cells zs.toArray t)) E3:=g3;obtain⟨A,e,mm,hcur,hr3⟩:=U.vars d2 _ D;rw [hvb]at mm
 have e1:((a.put (some d1) (.agg cells)).put (some d2) (.pointer (some ⟨w.heap.size,0,none⟩))).tmps.getD d1 undef= .agg cells:=by
  rw [dF _ _ _ _ (by simp [Act.put,H];exact u),ae hne,dF _ _ _ _ (by rw [H];exact O),af rfl]
 have e2:((a.put (some d1) (.agg cells)).put (some d2) (.pointer (some ⟨w.heap.size,0,none⟩))).tmps.getD d2 undef= .pointer (some ⟨w.heap.size,0,none⟩):=by
  rw [dF _ _ _ _ (by simp [Act.put,H];exact u),af rfl]
 have e3:((a.put (some d1) (.agg cells)).put (some d2) (.pointer (some ⟨w.heap.size,0,none⟩))).tmps.getD y undef= .slice p m c:=by
  rw [dF _ _ _ _ (by simp [Act.put,H];exact u),ae M,dF _ _ _ _ (by rw [H];exact O),ae Z,q]
 have hone:∀v∈cells.toList,v.oneCell'=true:=by
  intro v hv;rw [<-d]at hv;simp only [pM]at hv;rcases k4 hv with h|h
  ·exact o v h
  ·rw [h];rfl
 have hcl:cells.toList.length=zs.length:=by rw [cb];exact T
 have tR:A.size=zs.length:=by rw [hcur.2 asN];simp
 have hst:=run_storeCells_at C.P w.heap.size 0 e cells.toList 0 A (w.alloc (.cells zs.toArray t)) mm.2.2 (by rw [hcl,tR];omega) hone;have hsz0:aP C.P t≠0:=by rw [hsz];omega
 generalize L:(A.toList.take 0++cells.toList++A.toList.drop (0+cells.toList.length)).toArray=cur'
 have tS:cur'=cells:=by
  rw [<-L];apply hZ;simp [hcl,tR]
 have hrun:(Instr.storeAt t (.pointer (some ⟨w.heap.size,0,none⟩)) (.agg cells)).run C.P (w.alloc (.cells zs.toArray t))= .ok () ((w.alloc (.cells zs.toArray t)).setRow w.heap.size cur'):=by
  simp only [Instr.storeAt,Instr.sureAddr,az,aD,a8,storeVar,jf hsz0];have hc2:(Value.agg cells).cells=cells:=rfl;rw [ae (by rw [hc2,T,hsz];simp)];rw [<-L];simpa [hc2]using hst
 unfold b5 execOp;simp only [h3,Act.eval]at e1 e2⊢;simp only [e1,e2,az,hrun,a8,aD,Oper.upon_skip,hd3];refine hK3 _ _ ?_;have J:(((zs.map λv=>SV.pd (.raw v)).set n (.own i))).length=zs.length:=qr
 have g4:=U.store (cs':=(zs.map λv=>.pd (.raw v)).set n (.own i)) D cur' (.eq (by rw [J,tS,T])) (λj hj=>by
  rw [J]at hj;rw [tS,<-d]
  by_cases Q:j=n
  ·subst Q
   have e4:(zs.toArray.setIfInBounds j (.slice p m c)).getD j undef= .slice p m c:=by simp [aL,hn]
   have e5:((zs.map λv=>SV.pd (.raw v)).set j (.own i)).getD j .dead= .own i:=by simp [hn]
   rw [e4,e5];refine⟨rfl,?_⟩;have h5:=U.slots y;rw [e3,St.mQ,ae M,St.fO,ae M,St.fO,ae Z,hy]at h5;exact h5
  ·have e4:(zs.toArray.setIfInBounds n (.slice p m c)).getD j undef=zs[j]:=by
    rw [aL,im (bt Q)];simp [hj]
   have e5:((zs.map λv=>SV.pd (.raw v)).set n (.own i)).getD j .dead= .pd (.raw zs[j]):=by
    rw [ag,g8 (bt Q)];simp [hj]
   rw [e4,e5];exact⟨o _ (am hj),.raw _ (o _ (am hj))⟩)
 rw [hvb]at g4
 have hs2:((((s.set d1 .dead).set d2 (.box zs)).newVar d2 (zs.map λv=>.pd (.raw v))).setVar d2 ((zs.map λv=>.pd (.raw v)).set n (.own i)))=(((s.set d1 .dead).set d2 (.box zs)).newVar d2 ((zs.map λv=>.pd (.raw v)).set n (.own i))):=by
  simp only [St.setVar,St.newVar,sX]
 rw [hs2]at g4;exact next _ _ _ g4
end
end Go.au
namespace Go.Proofs.Z
open Go.au
def uw:eu Tryz.prog 471=none:=qq
def uD:arT Tryz.prog 471=some 256:=qq
abbrev str(l:List UInt8):ByteArray:=⟨l.toArray⟩
abbrev U8(c:UInt8):PD:=.raw (.int .u8 (c.toNat:Int))
abbrev Dt:PD:=.raw (.slice none 0 0)
def L9(i:Nat):PD:=if i=10 then .list 1 [U8 92,U8 110]else if i=34 then .list 1 [U8 92,U8 34]else if i=92 then .list 1 [U8 92,U8 92]else Dt
def l7:List UInt8:=[10,92,34]
abbrev JU(l:List UInt8):List PD:=l.map λc=>S (str [c])
def jF:List PD:=(aw 256).map L9++[.list 1 (JU l7)]
def kH:jF.length=257:=by simp [jF]
def Qk{i:Nat}(h:i<256):jF.getD i (.ak [])=L9 i:=by simp [jF,ag,cv,h]
def FK:jF.getD 256 (.ak [])= .list 1 (JU l7):=by simp [jF,ag]
def VH(k i:Nat):PD:=if i=10 then(if 1<=k then .list 1 [U8 92,U8 110]else Dt)else if i=34 then(if 3<=k then .list 1 [U8 92,U8 34]else Dt)else if i=92 then(if 2<=k then .list 1 [U8 92,U8 92]else Dt)else Dt
def jX(k:Nat):List SV:=(aw 256).map (λi=>.pd (VH k i))++[.own 94]
def iL(k:Nat):(jX k).length=257:=by simp [jX]
def zL(k:Nat):(jX k).getD 256 .dead= .own 94:=by simp [jX,ag]
def Du(k:Nat):((jX k).map (SV.aK 94)).take 256++[.own 94]++((jX k).map (SV.aK 94)).drop 257=jX k:=by
 simp only [jX,bl,cr,ap,ax,SV.aK,a7];have e:(List.map (SV.aK 94 ∘ λi=>SV.pd (VH k i)) (aw 256))=(aw 256).map λi=>.pd (VH k i):=rfl;rw [e,List.take_left' qr,List.drop_of_length_le qr];simp
def ZR:(jX 0).getD 10 .dead= .pd Dt:=qq
def ZT:(jX 1).getD 92 .dead= .pd Dt:=qq
def ZU:(jX 2).getD 34 .dead= .pd Dt:=qq
def pI:List ByteArray:=[str [34],str [92,34],str [92],str [92,92],str [10],str [92,110]]
abbrev rpl(a b c d:Value)(old:List ByteArray):PD:=.ak [.raw a,.raw b,.raw c,.raw d,strs old]
def Oh:List Value:=List.replicate 257 (.slice none 0 0)
def Sd:bG Tryz.prog 473=some Oh:=qq
def Eg(p:Option Addr)(m c:Nat)(w:World):(Instr.build 473 #[(1,.slice p m c)]).run Tryz.prog w= .ok (.agg (Oh.toArray.setIfInBounds 256 (.slice p m c))) w:=qq
def ZV:(Oh.map λv=>SV.pd (.raw v)).set 256 (.own 94)=jX 0:=qq
def Ek{var:Nat->Option (List SV)}{row:Nat->Option Row}(h:row 94=some ⟨9,1,JU (l7.take 3)⟩)(j:Nat)(a:j<257):Cv var row ((jX 3).getD j .dead) ((PD.ak jF).cell j):=by
 show Cv _ _ _ (jF.getD j (.ak []))
 by_cases e:j=256
 ·subst e
  rw [zL,FK];exact .own 94 ⟨9,1,JU (l7.take 3)⟩ h
 ·have H:j<256:=qk
  rw [Qk H]
  have e:(jX 3).getD j .dead= .pd (L9 j):=by
   have:VH 3 j=L9 j:=by simp [VH,L9]
   rw [<-this];simp [jX,ag,cv,H]
  rw [e];exact .pd _
def Built(w:World)(G:Pub)(e:Ending)(w':World):Prop:=
 ∃g,e= .returned (.iface 474 (.pointer (some ⟨g,0,none⟩)))/\w.heap.size<=g/\lD w' (G.new w.heap.size) g 0 (.ak jF)/\Go.RowKit.Below w.heap.size w w'
def KQ:IntKind.i64.wrap (-2)= -2/\IntKind.i64.wrap 0=0/\IntKind.i64.wrap 1=1/\IntKind.i64.wrap 2=2/\IntKind.i64.wrap 3=3/\IntKind.i64.wrap 4=4/\IntKind.i64.wrap 5=5/\IntKind.i64.wrap 6=6:=qu
def YB:(10:UInt8).toNat=10/\(34:UInt8).toNat=34/\(92:UInt8).toNat=92/\(110:UInt8).toNat=110:=qu
def Mc(x:UInt8):(str [x]).size=1:=rfl
def oY(x y:UInt8):(str [x,y]).size=2:=rfl
def i2:Nat->Int|0=>0|1=>2|2=>4|_=>6
def b2:Nat->Bool|0=>true|_=>false
def j2:Nat->Int|0=>4|1=>2|2=>0|_=>-2
def asO:j2 0=4:=rfl
def Ao:j2 1=2:=rfl
def xS:j2 2=0:=rfl
def xV:j2 3= -2:=rfl
def Is(w:World)(G:Pub)(p a b c d:Value)(U:Go.au.Good w G)(O:iR Tryz.prog w G p (.ref (rpl a b c d pI) 0)):Calls Tryz.prog 398 #[p] w (Built w G):=by
 refine Rn (args:=[.ref (rpl a b c d pI) 0]) Tryz.func398 rfl (by simp [Tryz.ntmps398]) U rfl (λi T=>by
  obtain rfl:i=0:=uu T;exact O) ?_
 simp only [pI];apply aj;simp only [go_sem,↓reduceIte,e9,Int.reduceBEq];refine R.fU (λ(k:Nat) s=>St.lp [3,6,7,8,9,10,11,12,13,14,59,60,61,62,63,64,65,66,67,68,69,70,71,72,73,74,75,76,77,78,79,80,81,82,83,84,85,86,87,88,89,90,91,92,93,94,95,96,97,98,99,100,101,102,103,104,105,106,107,108,109,110,111,112,113,114,115,116,117,118,119,120,121,122,123,124,125,126,127,128,129,130,131] [(5,.pd (I (i2 k))),(4,.pd (B (b2 k)))] [6,11] [] [] [] s) (λ(k:Nat)=>k<=3) (λ(k:Nat)=>3-k) (0) qk ?_;intro k J;have e:k=0\/k=1\/k=2\/k=3:=qk;rcases e with rfl|rfl|rfl|rfl
 ·apply aj;simp only [go_sem,↓reduceIte,i2,b2,e9,nx,cW,fW,fo,fp,iS,mX,Mc,oY,KQ,fX]
  refine R.fE 1 qk (hm:=qu) (l:=xl)
 ·apply aj;simp only [go_sem,↓reduceIte,i2,b2,e9,nx,fW,fo,fp,iS,mX,Mc,oY,KQ,fX]
  refine R.fE 2 qk (hm:=qu) (l:=xl)
 ·apply aj;simp only [go_sem,↓reduceIte,i2,b2,e9,nx,fW,fo,fp,iS,mX,Mc,oY,KQ,fX]
  refine R.fE 3 qk (hm:=qu) (l:=xl)
 ·apply aj;simp only [go_sem,↓reduceIte,i2,b2,e9,fo,decide_false]
  refine⟨qk,?_⟩;refine R.Im (n:=3) (z:=.string ByteArray.empty) (by':=16) 94 rfl rfl rfl rfl qn rfl rfl yA (by rw [cgP];kernel_rfl) rfl qu qu ?_;refine R.DS (n:=256) (zs:=Oh) (y:=94) (i:=94) (r:=⟨9,1,[]⟩) rfl rfl rfl rfl rfl rfl rfl rfl rfl qn qn qu qu qu rfl rfl rfl Sd (λv L=>by rw [List.eq_of_mem_replicate L];rfl) (by rw [cgP];kernel_rfl) qu Eg ?_;rw [ZV];apply ev8;simp only [go_sem,e9,na,KQ];refine R.fU (λ(k:Nat) s=>St.lp [2,3,11,131] [(12,.pd (I (j2 k)))] [6] [(11,jX k)] [] [(94,⟨9,1,JU (l7.take k)⟩)] s) (λ(k:Nat)=>k<=3) (λ(k:Nat)=>3-k) (0) qk ?_;clear J;intro k J;have e:k=0\/k=1\/k=2\/k=3:=qk;rcases e with rfl|rfl|rfl|rfl
  ·apply aj;simp only [go_sem,↓reduceIte,asO,iL,ZR,uw,uD,YB,e9,cW,fW,fo,fp,iS,ge_iff_le,mX,Mc,KQ,fX]
   refine R.ZQ rfl rfl (ah qn) rfl rfl kT ?_;apply aj;simp only [go_sem,↓reduceIte,iL,zL,mX];refine R.VG (bs:=[10]) rfl rfl (ah qn) rfl kT QW QX qr ?_;apply aj;simp only [go_sem,↓reduceIte,mX];refine R.iy (d:=S (str [10])) 1000 16 rfl rfl qn rfl rfl rfl rfl yA rfl NV qr (congrArg (Option.map aR) QZ) rfl QY (by simp []) qu qu ?_;apply aj;simp only [go_sem,↓reduceIte,iL,Du,al];refine R.Qj (b:=str [92,110]) rfl rfl rfl (ah qn) rfl QX kT QW qu ?_;apply aj;simp only [go_sem,↓reduceIte,iL,uw,uD,YB,e9,fW,fo,fp,na,KQ];refine R.fE 1 qk (hm:=qu) (l:=by(simp only [go_sem,Ao]);all_goals(and_intros<;>first|rfl))
  ·apply aj;simp only [go_sem,↓reduceIte,Ao,iL,ZT,uw,uD,YB,e9,cW,fW,fo,fp,iS,ge_iff_le,mX,Mc,KQ,fX]
   refine R.ZQ rfl rfl (ah qn) rfl rfl kT ?_;apply aj;simp only [go_sem,↓reduceIte,iL,zL,mX];refine R.VG (bs:=[92]) rfl rfl (ah qn) rfl kT QW QX qr ?_;apply aj;simp only [go_sem,↓reduceIte,mX];refine R.iy (d:=S (str [92])) 1000 16 rfl rfl qn rfl rfl rfl rfl yA rfl NV qr (congrArg (Option.map aR) QZ) rfl QY (by simp [l7]) qu qu ?_;apply aj;simp only [go_sem,↓reduceIte,iL,Du,al];refine R.Qj (b:=str [92,92]) rfl rfl rfl (ah qn) rfl QX kT QW qu ?_;apply aj;simp only [go_sem,↓reduceIte,iL,uw,uD,YB,e9,fW,fo,fp,na,KQ];refine R.fE 2 qk (hm:=qu) (l:=by(simp only [go_sem,xS]);all_goals(and_intros<;>first|rfl))
  ·apply aj;simp only [go_sem,↓reduceIte,xS,iL,ZU,uw,uD,YB,e9,cW,fW,fo,fp,iS,ge_iff_le,mX,Mc,KQ,fX]
   refine R.ZQ rfl rfl (ah qn) rfl rfl kT ?_;apply aj;simp only [go_sem,↓reduceIte,iL,zL,mX];refine R.VG (bs:=[34]) rfl rfl (ah qn) rfl kT QW QX qr ?_;apply aj;simp only [go_sem,↓reduceIte,mX];refine R.iy (d:=S (str [34])) 1000 16 rfl rfl qn rfl rfl rfl rfl yA rfl NV qr (congrArg (Option.map aR) QZ) rfl QY (by simp [l7]) qu qu ?_;apply aj;simp only [go_sem,↓reduceIte,iL,Du,al];refine R.Qj (b:=str [92,34]) rfl rfl rfl (ah qn) rfl QX kT QW qu ?_;apply aj;simp only [go_sem,↓reduceIte,iL,uw,uD,YB,e9,fW,fo,fp,na,Int.reduceNeg,KQ];refine R.fE 3 qk (hm:=qu) (l:=by(simp only [go_sem,xV]);all_goals(and_intros<;>first|rfl))
  ·apply aj;simp only [go_sem,↓reduceIte,xV,fp,Int.reduceNeg,ge_iff_le,decide_false]
   refine R.uh (v:=.gV 474 (.aA 11 0)) rfl (ah qn) qr (λa w E g=>?_) ?_
   ·have D:=g.slots 11
    refine⟨.iface 474 (a.tmps.getD 11 undef),?_,?_⟩
    ·unfold execOp
     simp [Act.eval,Instr.makeInterface,cgP,run_underlying Tryz.underlying474]
    ·exact⟨_,rfl,D⟩
   refine ac ?_;refine R.ret λK X E g=>?_;obtain⟨u,M,x⟩:∃u,K.tmps.getD 2 undef= .iface 474 u/\u= .pointer (some ⟨E.vb 11,0,none⟩):=g.slots 2;subst x;have H:(St.mk 132 [(12,.pd (I (-2))),(3,.pd (strs pI)),(11,.aA 11 0),(99,.pd (I (-2))),(100,.pd (B false)),(131,.gV 474 (.aA 11 0)),(2,.gV 474 (.aA 11 0))] [(11,jX 3)] [(94,⟨9,1,JU (l7.take 3)⟩)] [] []).var 11=some (jX 3):=rfl;have C:=g.Uz (d:=.ak jF) H (by rw [iL,<-kH];exact a3 _) (λj Q=>Ek rfl j (by rw [<-kH];exact Q))
   have f:w.heap.size<=E.vb 11:=by
    obtain⟨_,_,m,_⟩:=g.vars 11 _ H;rcases m.1 with h|h
    ·exact h
    ·exact h.elim
   refine⟨g.defers,.iface 474 (.pointer (some ⟨E.vb 11,0,none⟩)),?_,E.vb 11,rfl,f,?_,g.kept.Ah⟩
   ·rw [iH (vs:=[.iface 474 (.pointer (some ⟨E.vb 11,0,none⟩))]) (by show(([ResultVar.tmp 2]:List ResultVar).mapM (l9 K.tmps)).run _ _=_;simp [l9,M])];rfl
   ·refine C.keep (.same λq o h=>?_)
    rcases h with h|⟨t,Z,h,rfl⟩|⟨i,r,P,N,A,rfl⟩
    ·exact g.g1 _ _ h
    ·obtain⟨_,_,m,_⟩:=g.vars t _ h
     rcases m.1 with h|h
     ·exact .inr h
     ·exact h.elim
    ·exact .inr (Nb (g.bI i r P N A rfl) rfl)
end Go.Proofs.Z
