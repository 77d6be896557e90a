/- A part of the proof. -/
import Derived.Test.YtgeljjfmcmbejaaGreatDoorPRb
set_option linter.all false
set_option linter.deprecated false
open Go.Act renaming eval→ep
open Go.Proofs.Tryz renaming prog→aa,underlying174→l5
open Go.Result renaming andThen_ok→a8
open Go.Sem renaming run_pure→aD,run_bind→az
set_option maxRecDepth 100000
set_option maxHeartbeats 4000000
namespace Go.Proofs.Z
open Go.au
variable {all:Array Oper}{id j:Nat}
def cp3(w:World)(b N cap j:Nat)(e:j<N)(d:N<=cap)(f:cap<=maxLen):(Instr.sliceAt 174 (.slice (some ⟨b,0,none⟩) N cap) (some (.int .i64 j)) none none).run aa w= .ok (.slice (some ⟨b,j,none⟩) (N-j) (cap-j)) w:=by
 have a:=qE (P:=aa) (w:=w) (b:=true) (len:=N) (cap:=cap) (lo:=some (.int .i64 j)) (hi:=none) (l:=j) (h:=N) (.inr ⟨_,rfl⟩) (.inl ⟨rfl,rfl⟩) qk qk qk d;have z:(sizeOf 5).run aa w= .ok 1 w:=jf (by rw [sz5];decide)|>.trans (by rw [sz5]);have H:¬cap=j:=qk;simp [Instr.sliceAt,Instr.slice,run_underlying l5,a,H,addr_add]
def cp7(w:World)(g o:Nat):(Instr.fieldAt 473 (.pointer (some ⟨g,o,none⟩)) 0).run aa w= .ok (.pointer (some ⟨g,o,none⟩)) w:=by
 simp [go_sem,Instr.fieldAt]
def cp8(w:World)(g o c:Nat)(a:c<256):(Instr.indexAt 471 (.pointer (some ⟨g,o,none⟩)) (.int .u8 c)).run aa w= .ok (.pointer (some ⟨g,o+c,none⟩)) w:=by
 have H:(sizeOf 174).run aa w= .ok 1 w:=jf (by rw [Zl];decide)|>.trans (by rw [Zl]);simp [go_sem,Instr.indexAt];intro h;omega
def cp9(w:World)(g o:Nat)(v:Value)(h:w.cell? ⟨g,o,none⟩=some v):(Instr.loadAt 174 (.pointer (some ⟨g,o,none⟩))).run aa w= .ok v w:=by
 simp [go_sem,Instr.loadAt,h]
def JW:List (Option Nat×Op×Option (Nat×Bool)):=[(some 102,.move (.tmp 13),none),(some 103,.move (.tmp 12),none),(some 104,.move (.tmp 13),none),(some 105,.slice 174 (.tmp 103) (some (.tmp 104)) none none,none),(some 106,.move (.tmp 0),none),(some 107,.move (.tmp 15),none),(some 108,.nilCheck (.tmp 106),none),
 (some 109,.fieldAddr 473 (.tmp 108) 0,none),(some 110,.indexAddr 471 (.tmp 109) (.tmp 107),none),(some 111,.load 174 (.tmp 110),none),(some 112,.call ⟨.builtin .copy,#[.tmp 105,.tmp 111],#[174,174]⟩,none),(some 113,.binOp .add 3 (.tmp 102) (.tmp 112) 3,none),(some 13,.assign (.tmp 113),none)]
def yQ:List Nat:=[102,103,104,105,106,107,108,109,110,111,112,113,13]
def Eh:List (Nat×Nat):=[(3,1),(3,2),(6,4),(7,6),(8,5),(8,7),(9,8),(10,3),(10,9),(11,0),(11,10),(12,0),(12,1),(12,2),(12,3),(12,4),(12,5),(12,6),(12,7),(12,8),(12,9),(12,10),(12,11)]
def VJ(all:Array Oper)(i m:Nat):Bool:=match all[i]? with|some o=>o.after.any λe=>e.on==m&&Region.binds .any e|none=>false
def YD{i m:Nat}{o:Oper}{L:Array Bool}(h:VJ all i m=true)(a:all[i]? =some o)(H:∀e∈o.after,Region.binds .any e=true->L.getD e.on false=true):L.getD m false=true:=by
 unfold VJ at h;rw [a]at h;simp only [Array.any_eq_true,bj,cy]at h;obtain⟨i,b,f,d⟩:=h;have:=H _ (Array.getElem_mem b) d
 rwa [f]at this
def asP{Q:Exit->Act->World->Prop}{a:Act}{w:World}{g0 base b N cap q o cap':Nat}{c:UInt8}{cur:Array Value}{u1 u2:Value}
  (z:all.toList.map (λo=>(o.dst,o.op,o.guard))=JW)(pa:Eh.all (λp=>VJ all p.1 p.2)=true)(hE:(all.toList.zipIdx).all (λp=>vY p.2 p.1)=true)
  (O:a.tmps.size=122)(h0:a.tmps.getD 0 undef= .pointer (some ⟨g0,base,none⟩))(h12:a.tmps.getD 12 undef= .slice (some ⟨b,0,none⟩) N cap)(h13:a.tmps.getD 13 undef= .int .i64 j)(h15:a.tmps.getD 15 undef= .int .u8 c.toNat)
  (U:w.heap[b]? =some (.cells cur 5 (0,0)))(hcur:cur.size=cap)(hN:N<=cap)(hj:j+2<=N)(C:cap<=maxLen)(hgb:g0≠b)(hqb:q≠b)
  (M:w.cell? ⟨g0,base+c.toNat,none⟩=some (.slice (some ⟨q,o,none⟩) 2 cap'))(hq1:w.cell? ⟨q,o,none⟩=some u1)(hq2:w.cell? ⟨q,o+1,none⟩=some u2)(hu1:u1.oneCell'=true)(hu2:u2.oneCell'=true)
  (done:∀D:List (Nat×Value),D.map (·.1)=yQ->(puts a D).tmps.getD 13 undef= .int .i64 ((j+2:Nat):Int)->Q .normal (puts a D) (({w with drawn:=w.drawn+1}:World).setRow b (cur.toList.take j++[u1,u2]++cur.toList.drop (j+2)).toArray)):(Code.region id all true).wp aa Q a w:=by
 have f:all.size=13:=by have:=congrArg List.length z;simpa [JW]using this
 have Z:∀(i:Nat) (o:Oper),all[i]? =some o->JW[i]? =some (o.dst,o.op,o.guard):=λi o A=>by
  rw [<-z,cU];have:all.toList[i]? =some o:=uu A;rw [this];rfl
 have hd:∀p∈Eh,VJ all p.1 p.2=true:=λp hp=>(aM.1 pa) p hp;have hc8:c.toNat<256:=c.toNat_lt
 obtain⟨D,hD⟩:∃D:List (Nat×Value),D=[(102,.int .i64 j),(103,.slice (some ⟨b,0,none⟩) N cap),(104,.int .i64 j),(105,.slice (some ⟨b,j,none⟩) (N-j) (cap-j)),(106,.pointer (some ⟨g0,base,none⟩)),(107,.int .u8 c.toNat),(108,.pointer (some ⟨g0,base,none⟩)),
  (109,.pointer (some ⟨g0,base,none⟩)),(110,.pointer (some ⟨g0,base+c.toNat,none⟩)),(111,.slice (some ⟨q,o,none⟩) 2 cap'),(112,.int .i64 2),(113,.int .i64 ((j+2:Nat):Int)),(13,.int .i64 ((j+2:Nat):Int))]:=⟨_,rfl⟩
 let u:World:={w with drawn:=w.drawn+1}
 let W:Array Bool->World:=λL=>if L.getD 10 false=true then u.setRow b (cur.toList.take j++[u1,u2]++cur.toList.drop (j+2)).toArray else u
 have l:∀L:Array Bool,L.size=13->∀i,i≠10->W (L.setIfInBounds i true)=W L:=λL hL i X=>by
  have:(L.setIfInBounds i true).getD 10 false=L.getD 10 false:=by simp [aL,im X]
  simp only [W,this]
 have G:∀(L:Array Bool) (p:Addr),p.block≠b->(W L).cell? p=w.cell? p:=λL p hp=>by
  simp only [W]
  split
  ·exact World.cell?_of_block (setRow_other u b p.block _ hp)
  ·rfl
 refine Tj mixed hE D W (by rw [hD,f];rfl) (by rw [hD];simp) (by rw [hD,O];simp) (by simp [W,u,Array.getD,f]) (λi o A=>?_) ?_ ?_
 ·have h1:=Z i o A
  have X:=(bm.1 A).1;rw [f]at X;rw [hD];rcases i with _|_|_|_|_|_|_|_|_|_|_|_|_|i<;>first|omega|(cases h1;rfl)|(simp [JW]at h1;simp [h1])
 ·intro L i op s A K hall hcl a' t
  have X:=(bm.1 A).1;rw [f]at X s;have h1:=Z i op A;have dep:∀m,(i,m)∈Eh->L.getD m false=true:=λm E=>YD (hd _ E) A hall
  have asQ:(12,i)∈Eh->L.getD 12 false=false:=λE=>by
   cases e:L.getD 12 false with
   |false=>rfl
   |true=>
    have xW:all[12]? =some all[12]:=by simp [f]
    have:=YD (hd _ E) xW (hcl 12 _ xW e);rw [K]at this;cases this
  have e0:a'.tmps.getD 0 undef= .pointer (some ⟨g0,base,none⟩):=by rw [t 0,hD,<-h0];simp [kX]
  have e12:a'.tmps.getD 12 undef= .slice (some ⟨b,0,none⟩) N cap:=by rw [t 12,hD,<-h12];simp [kX]
  have e15:a'.tmps.getD 15 undef= .int .u8 c.toNat:=by rw [t 15,hD,<-h15];simp [kX]
  have e13:(12,i)∈Eh->a'.tmps.getD 13 undef= .int .i64 j:=λE=>by rw [t 13,hD,<-h13];simp only [kX,asQ E];simp
  have H:∀m d v,L.getD m false=true->D[m]? =some (d,v)->m<12->a'.tmps.getD d undef=v:=λm d v E r hm2=>by
   rw [t d,hD];rw [hD]at r;rcases m with _|_|_|_|_|_|_|_|_|_|_|_|m<;>first|omega|(cases r;simp only [kX,E];simp)
  have x:op.op=((JW[i]?).getD (none,.move (.tmp 0),none)).2.1:=by rw [h1];rfl
  have hjl:(j:Int)+2=((j+2:Nat):Int):=qk;rcases i with _|_|_|_|_|_|_|_|_|_|_|_|_|i
  ·have h:op.op= .move (.tmp 13):=x
   exact⟨_,xx,by rw [l L s _ qu];simp only [execOp,h,ep,e13 qu,aD]⟩
  ·have h:op.op= .move (.tmp 12):=x
   exact⟨_,xx,by rw [l L s _ qu];simp only [execOp,h,ep,e12,aD]⟩
  ·have h:op.op= .move (.tmp 13):=x
   exact⟨_,xx,by rw [l L s _ qu];simp only [execOp,h,ep,e13 qu,aD]⟩
  ·have h:op.op= .slice 174 (.tmp 103) (some (.tmp 104)) none none:=x
   have g:=H 1 103 _ (dep 1 qu) xx qu;have J:=H 2 104 _ (dep 2 qu) xx qu;exact⟨_,xx,by rw [l L s _ qu];simp only [execOp,h,ep,Option.map_some,Option.map_none,g,J,az,cp3 (W L) b N cap j qk hN C,a8,aD]⟩
  ·have h:op.op= .move (.tmp 0):=x
   exact⟨_,xx,by rw [l L s _ qu];simp only [execOp,h,ep,e0,aD]⟩
  ·have h:op.op= .move (.tmp 15):=x
   exact⟨_,xx,by rw [l L s _ qu];simp only [execOp,h,ep,e15,aD]⟩
  ·have h:op.op= .nilCheck (.tmp 106):=x
   have g:=H 4 106 _ (dep 4 qu) xx qu;exact⟨_,xx,by rw [l L s _ qu];simp only [execOp,h,ep,g];simp [go_sem]⟩
  ·have h:op.op= .fieldAddr 473 (.tmp 108) 0:=x
   have g:=H 6 108 _ (dep 6 qu) xx qu;exact⟨_,xx,by rw [l L s _ qu];simp only [execOp,h,ep,g,az,cp7 (W L) g0 base,a8,aD]⟩
  ·have h:op.op= .indexAddr 471 (.tmp 109) (.tmp 107):=x
   have g:=H 7 109 _ (dep 7 qu) xx qu;have J:=H 5 107 _ (dep 5 qu) xx qu;exact⟨_,xx,by rw [l L s _ qu];simp only [execOp,h,ep,g,J,az,cp8 (W L) g0 base c.toNat hc8,a8,aD]⟩
  ·have h:op.op= .load 174 (.tmp 110):=x
   have g:=H 8 110 _ (dep 8 qu) xx qu;exact⟨_,xx,by rw [l L s _ qu];simp only [execOp,h,ep,g,az,cp9 (W L) g0 (base+c.toNat) _ ((G L ⟨g0,base+c.toNat,none⟩ hgb).trans M),a8,aD]⟩
  ·have h:op.op= .call ⟨.builtin .copy,#[.tmp 105,.tmp 111],#[174,174]⟩:=x
   have g:=H 3 105 _ (dep 3 qu) xx qu;have J:=H 9 111 _ (dep 9 qu) xx qu;have hwl:W L=u:=by simp only [W,K];simp
   have hws:W (L.setIfInBounds 10 true)=u.setRow b (cur.toList.take j++[u1,u2]++cur.toList.drop (j+2)).toArray:=by
    have:(L.setIfInBounds 10 true).getD 10 false=true:=by simp [aL,s]
    simp only [W,this,a7]
   have T:=run_copy_row (P:=aa) u 174 174 op.type 5 b j (N-j) (cap-j) ⟨q,o,none⟩ 2 cap' cur 5 [u1,u2] l5 qq U (by show 2=min 2 (N-j);omega)
    (λk v r=>by
     rcases k with _|_|k
     ·cases r;exact hq1
     ·cases r;exact hq2
     ·cases r) (by show j+2<=cur.size;omega) (by intro v r;simp at r;rcases r with rfl|rfl<;>assumption)
   refine⟨_,xx,?_⟩;rw [hwl];show _=Result.ok _ (W (L.setIfInBounds 10 true));rw [hws];simp only [execOp,h];simp [resolve,invoke,builtin,ep,g,J,T,Result.andThen,goInt]
   done
  ·have h:op.op= .binOp .add 3 (.tmp 102) (.tmp 112) 3:=x
   have g:=H 0 102 _ (dep 0 qu) xx qu;have J:=H 10 112 _ (dep 10 qu) xx qu;exact⟨_,xx,by rw [l L s _ qu];simp only [execOp,h,ep,g,J];simp [go_sem];exact wrap64 qk (by unfold maxLen at C;omega)⟩
  ·have h:op.op= .assign (.tmp 113):=x
   have g:=H 11 113 _ (dep 11 qu) xx qu;exact⟨_,xx,by rw [l L s _ qu];simp only [execOp,h,ep,g,aD]⟩
  ·omega
 ·have:W (Array.replicate all.size true)=u.setRow b (cur.toList.take j++[u1,u2]++cur.toList.drop (j+2)).toArray:=by simp [W,Array.getD,f]
  rw [this];refine done D xx ?_;rw [Ip (n:=13) (k:=0) (by rw [hD];simp) (by rw [hD,O];simp) (by rw [hD];simp),hD];rfl
def R.asR{C:Cx}{k:List KI}{s:St}{c y1 y2:UInt8}{ds:List PD}(hP:C.P=aa)(hdr:C.dr=false)
  (P:all.toList.map (λo=>(o.dst,o.op,o.guard))=JW)(pa:Eh.all (λp=>VJ all p.1 p.2)=true)(hE:(all.toList.zipIdx).all (λp=>vY p.2 p.1)=true)
  (hn:s.n=122)(h0:s.get 0= .ref (.ak jF) 0)(h12:s.get 12= .own 12)(h13:s.get 13= .pd (.raw (.int .i64 j)))(h15:s.get 15= .pd (.raw (.int .u8 c.toNat)))(hr:s.row 12=some ⟨5,1,ds⟩)
  (K:jF.getD c.toNat (.ak [])= .list 1 [U8 y1,U8 y2])(Z:j+2<=ds.length)
  (next:R C k (((yQ.foldl (λs t=>s.set t .dead) s).setRow 12 ⟨5,1,ds.take j++[U8 y1,U8 y2]++ds.drop (j+2)⟩).set 13 (.pd (.raw (.int .i64 ((j+2:Nat):Int)))))):R C (.code (.region id all true)::k) s:=by
 intro a w E g;simp only [fin];have s0:=g.slots 0;rw [h0]at s0;have A:=g.slots 12;rw [h12]at A;have f:=g.slots 13;rw [h13]at f;have d:=g.slots 15;rw [h15]at d;have f:=aH.aC f;have d:=aH.aC d;obtain⟨g0,T,e0,hat⟩:=s0;rcases g.rows 12 _ hr with⟨_,hz⟩|⟨b,Q,r,X,m,i2,i3,i4,i5,i6⟩
 ·simp only at hz;rw [hz]at Z;simp at Z
 rcases A _ hr with⟨h2,_⟩|⟨b',cap',h2,h3⟩
 ·rw [h2]at X;cases X
 rw [h2]at X;cases X;simp only [cQ]at i2 i3 h3 i6;have hc8:c.toNat<256:=c.toNat_lt;obtain⟨hp1,v,hc1,i⟩:=hat c.toNat (by show c.toNat<jF.length;rw [kH];omega);have i:Rd w E.G v (.list 1 [U8 y1,U8 y2]):=by rw [<-K];exact i
 have hgb:g0≠b:=λe=>m.2.1 _ (e▸hp1);rcases Rd.jM i with⟨_,_,hx⟩|⟨q,o,cq,rfl,_,_,_,H⟩
 ·cases hx
 obtain⟨O,z,J,n⟩:=H 0 qr 0 kw;obtain⟨_,U,G,l⟩:=H 1 qr 0 kw;simp only [Nat.zero_mul,Nat.add_zero,Nat.one_mul,eB,lx]at O J n G l;have hqb:q≠b:=λe=>m.2.1 _ (e▸O);rw [hP];refine asP (g0:=g0) (base:=T) (b:=b) (N:=ds.length) (cap:=Q) (q:=q) (o:=o) (cap':=cq) (j:=j) (c:=c) (cur:=r) (u1:=z) (u2:=U) P pa hE (g.size.trans hn) (uu e0) h3 f d m.2.2 i2 i3 Z i4 hgb hqb (uu hc1) J G n.oneCell l.oneCell ?_;intro D hD asT
 have g1:=aB.tO (D:=D) g (λp hp=>by
  have:p.1∈yQ:=by rw [<-hD];exact aq.2 ⟨p,hp,rfl⟩
  rw [hn];simp [yQ]at this;omega)
 have u:D.foldl (λs p=>s.set p.1 .dead) s=yQ.foldl (λs t=>s.set t .dead) s:=by rw [<-hD,List.foldl_map]
 rw [u]at g1;have hb:Go.RowKit.Below w.heap.size w ({w with drawn:=w.drawn+1}:World):=⟨rfl,rfl,rfl,a3 _,λ_ _=>rfl⟩;have g2:=g1.Jt (w':=({w with drawn:=w.drawn+1}:World)) hb (λh=>yf) E.G (λ_ _ h=>h) (λ_ _ h=>.inl h);have M:(yQ.foldl (λs t=>s.set t .dead) s).row 12=some ⟨5,1,ds⟩:=hr;have L:∀q,q<ds.length->(ds.take j++[U8 y1,U8 y2]++ds.drop (j+2)).getD q (.ak [])=if j<=q/\q<j+2 then [U8 y1,U8 y2].getD (q-j) (.ak [])else ds.getD q (.ak []):=λq H=>qj (.ak []) ds [U8 y1,U8 y2] j q (uu Z) H
 have x:(ds.take j++[U8 y1,U8 y2]++ds.drop (j+2)).length=ds.length:=qz
 have g3:=g2.He (b:=b) (cap:=Q) M h2 (ds.take j++[U8 y1,U8 y2]++ds.drop (j+2)) (r.toList.take j++[z,U]++r.toList.drop (j+2)).toArray x qz
  (λq H=>by
   rw [x]at H;rw [L q H]
   split
   ·rename_i h
    have:q-j=0\/q-j=1:=qk;rcases this with e|e<;>rw [e]<;>rfl
   ·exact i5 q H)
  (λq jj H hjj=>by
   rw [x]at H;have:jj=0:=uu hjj;subst this;have hqc:q<r.toList.length:=qz
   have ec:((r.toList.take j++[z,U]++r.toList.drop (j+2)).toArray).getD (q*1+0) undef=if j<=q/\q<j+2 then [z,U].getD (q-j) undef else r.toList.getD q undef:=by
    rw [aL,gc,<-ag,cQ,Nat.add_zero];exact qj undef r.toList [z,U] j q qz hqc
   rw [ec,L q H]
   by_cases h:j<=q/\q<j+2
   ·rw [af h,af h]
    have:q-j=0\/q-j=1:=qk;rcases this with e|e
    ·rw [e];exact n.keep (Keeps.uU g.gw hb λ_ _ h=>h)
    ·rw [e];exact l.keep (Keeps.uU g.gw hb λ_ _ h=>h)
   ·rw [ae h,ae h]
    have:=(i6 q 0 H qu).keep (Keeps.uU g.gw hb λ_ _ h=>h);simpa [aL,ag]using this)
 have hsn:((yQ.foldl (λs t=>s.set t .dead) s).setRow 12 ⟨5,1,ds.take j++[U8 y1,U8 y2]++ds.drop (j+2)⟩).n=122:=hn;have g4:=g3.Aw (t:=13) (v:=.pd (.raw (.int .i64 ((j+2:Nat):Int)))) (by show 13<_;rw [hsn];decide) (by rw [asT];exact .raw _ rfl) qr;exact next _ _ _ g4
end Go.Proofs.Z
