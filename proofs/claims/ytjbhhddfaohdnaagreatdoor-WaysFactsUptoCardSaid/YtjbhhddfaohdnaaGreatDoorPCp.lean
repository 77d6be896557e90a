/- A part of the proof. -/
import Derived.Test.YtjbhhddfaohdnaaGreatDoorPRb
set_option linter.all false
set_option linter.deprecated false
open Go.Act renaming eval→aq2
open Go.Proofs.Tryz renaming prog→aai,underlying311→ar9
open Go.Result renaming andThen_ok→adR
open Go.Sem renaming run_pure→afN,run_bind→aex
namespace Go.Proofs.Z
open Go Go.au Go.Proofs
set_option maxRecDepth 20000
set_option maxHeartbeats 4000000
theorem cp3 (w:World) (b N cap j:Nat) (hj:j<N) (hN:N≤cap) (hc:cap≤maxLen):(Instr.sliceAt 311 (.slice (some ⟨b,0,none⟩) N cap) (some (.int .i64 j)) none none).run aai w = .ok (.slice (some ⟨b,j,none⟩) (N - j) (cap - j)) w:=by
 have hb:=kN (P:=aai) (w:=w) (b:=true) (len:=N) (cap:=cap) (lo:=some (.int .i64 j)) (hi:=none) (l:=j) (h:=N) (.inr ⟨_,rfl⟩) (.inl ⟨rfl,rfl⟩) (by omega) (by omega) (by omega) hN
 have hsz:(sizeOf 5).run aai w = .ok 1 w:=jE (by rw [sz5]; decide) |>.trans (by rw [sz5])
 have hne:¬ cap=j:=by omega
 simp [Instr.sliceAt,Instr.slice,run_underlying ar9,hb,hsz,hne,addr_add]
theorem cp7 (w:World) (g o:Nat):(Instr.fieldAt 346 (.pointer (some ⟨g,o,none⟩)) 0).run aai w = .ok (.pointer (some ⟨g,o,none⟩)) w:=by
 simp [go_sem,Instr.fieldAt]
theorem cp8 (w:World) (g o c:Nat) (hc:c<256):(Instr.indexAt 344 (.pointer (some ⟨g,o,none⟩)) (.int .u8 c)).run aai w = .ok (.pointer (some ⟨g,o+c,none⟩)) w:=by
 have hsz:(sizeOf 311).run aai w = .ok 1 w:=jE (by rw [WO]; decide) |>.trans (by rw [WO])
 simp [go_sem,Instr.indexAt]
 intro h; omega
theorem cp9 (w:World) (g o:Nat) (v:Value) (h:w.cell? ⟨g,o,none⟩=some v):(Instr.loadAt 311 (.pointer (some ⟨g,o,none⟩))).run aai w = .ok v w:=by
 simp [go_sem,Instr.loadAt,h]
def Ig:List (Option Nat × Op × Option (Nat × Bool)):=[(some 102,.move (.tmp 13),none),(some 103,.move (.tmp 12),none),(some 104,.move (.tmp 13),none),(some 105,.slice 311 (.tmp 103) (some (.tmp 104)) none none,none),(some 106,.move (.tmp 0),none),(some 107,.move (.tmp 15),none),(some 108,.nilCheck (.tmp 106),none),
 (some 109,.fieldAddr 346 (.tmp 108) 0,none),(some 110,.indexAddr 344 (.tmp 109) (.tmp 107),none),(some 111,.load 311 (.tmp 110),none),(some 112,.call ⟨.builtin .copy,#[.tmp 105,.tmp 111],#[311,311]⟩,none),(some 113,.binOp .add 3 (.tmp 102) (.tmp 112) 3,none),(some 13,.assign (.tmp 113),none)]
def xK:List Nat:=[102,103,104,105,106,107,108,109,110,111,112,113,13]
def Du:List (Nat × Nat):=[(3,1),(3,2),(6,4),(7,6),(8,5),(8,7),(9,8),(10,3),(10,9),(11,0),(11,10),(12,0),(12,1),(12,2),(12,3),(12,4),(12,5),(12,6),(12,7),(12,8),(12,9),(12,10),(12,11)]
def Sv (all:Array Oper) (i m:Nat):Bool:=match all[i]? with | some o=>o.after.any fun e=>e.on == m&&Region.binds .any e | none=>false
theorem VD {all:Array Oper} {i m:Nat} {o:Oper} {L:Array Bool} (h:Sv all i m=true) (ho:all[i]? = some o) (hall:∀ e∈o.after,Region.binds .any e=true→L.getD e.on false=true):L.getD m false=true:=by
 unfold Sv at h
 rw [ho] at h
 simp only [Array.any_eq_true,af5,aqc] at h
 obtain ⟨i,hi,h1,h2⟩:=h
 have:=hall _ (Array.getElem_mem hi) h2
 rwa [h1] at this
theorem an4 {all:Array Oper} {Q:Exit→Act→World→Prop} {id:Nat} {a:Act} {w:World} {g0 base b N cap q o cap' j:Nat} {c:UInt8} {cur:Array Value} {u1 u2:Value}
  (hops:all.toList.map (fun o=>(o.dst,o.op,o.guard))=Ig) (acg:Du.all (fun p=>Sv all p.1 p.2)=true) (hE:(all.toList.zipIdx).all (fun p=>uV p.2 p.1)=true)
  (hsz:a.tmps.size=122) (h0:a.tmps.getD 0 undef = .pointer (some ⟨g0,base,none⟩)) (h12:a.tmps.getD 12 undef = .slice (some ⟨b,0,none⟩) N cap) (h13:a.tmps.getD 13 undef = .int .i64 j) (h15:a.tmps.getD 15 undef = .int .u8 c.toNat)
  (hrow:w.heap[b]? = some (.cells cur 5 (0,0))) (hcur:cur.size=cap) (hN:N≤cap) (hj:j+2≤N) (hcap:cap≤maxLen) (hgb:g0≠b) (hqb:q≠b)
  (htab:w.cell? ⟨g0,base+c.toNat,none⟩=some (.slice (some ⟨q,o,none⟩) 2 cap')) (hq1:w.cell? ⟨q,o,none⟩=some u1) (hq2:w.cell? ⟨q,o+1,none⟩=some u2) (hu1:u1.oneCell'=true) (hu2:u2.oneCell'=true)
  (done:∀ D:List (Nat × Value),D.map (·.1)=xK→(puts a D).tmps.getD 13 undef = .int .i64 ((j+2:Nat):Int)→Q .normal (puts a D) (({ w with drawn:=w.drawn+1 }:World).setRow b (cur.toList.take j++[u1,u2]++cur.toList.drop (j+2)).toArray)):(Code.region id all true).wp aai Q a w:=by
 have hlen:all.size=13:=by have:=congrArg List.length hops; simpa [Ig] using this
 have hat:∀ (i:Nat) (o:Oper),all[i]? = some o→Ig[i]? = some (o.dst,o.op,o.guard):=fun i o ho=>by
  rw [← hops,ano]
  have:all.toList[i]? = some o:=by simpa using ho
  rw [this]; rfl
 have hd:∀ p∈Du,Sv all p.1 p.2=true:=fun p hp=>(afX.1 acg) p hp
 have hc8:c.toNat<256:=c.toNat_lt
 obtain ⟨D,hD⟩:∃ D:List (Nat × Value),D=[(102,.int .i64 j),(103,.slice (some ⟨b,0,none⟩) N cap),(104,.int .i64 j),(105,.slice (some ⟨b,j,none⟩) (N - j) (cap - j)),(106,.pointer (some ⟨g0,base,none⟩)),(107,.int .u8 c.toNat),(108,.pointer (some ⟨g0,base,none⟩)),
  (109,.pointer (some ⟨g0,base,none⟩)),(110,.pointer (some ⟨g0,base+c.toNat,none⟩)),(111,.slice (some ⟨q,o,none⟩) 2 cap'),(112,.int .i64 2),(113,.int .i64 ((j+2:Nat):Int)),(13,.int .i64 ((j+2:Nat):Int))]:=⟨_,rfl⟩
 let w1:World:={ w with drawn:=w.drawn+1 }
 let W:Array Bool→World:=fun L=>if L.getD 10 false=true then w1.setRow b (cur.toList.take j++[u1,u2]++cur.toList.drop (j+2)).toArray else w1
 have yh:∀ L:Array Bool,L.size=13→∀ i,i≠10→W (L.setIfInBounds i true)=W L:=fun L hL i hi=>by
  have:(L.setIfInBounds i true).getD 10 false=L.getD 10 false:=by simp [adr,aqr hi]
  simp only [W,this]
 have hcell:∀ (L:Array Bool) (p:Addr),p.block≠b→(W L).cell? p=w.cell? p:=fun L p hp=>by
  simp only [W]
  split
  ·exact World.cell?_of_block (setRow_other w1 b p.block _ hp)
  ·rfl
 refine PU mixed hE D W (by rw [hD,hlen]; rfl) (by rw [hD]; simp) (by rw [hD,hsz]; simp) (by simp [W,w1,Array.getD,hlen]) (fun i o ho=>?_) ?_ ?_
 ·have h1:=hat i o ho
  have hi:=(ad6.1 ho).1
  rw [hlen] at hi
  rw [hD]
  rcases i with _ | _ | _ | _ | _ | _ | _ | _ | _ | _ | _ | _ | _ | i <;> first | omega | (cases h1; rfl) | (simp [Ig] at h1; simp [h1])
 ·intro L i op hs ho hun hall hcl a' hget
  have hi:=(ad6.1 ho).1
  rw [hlen] at hi hs
  have h1:=hat i op ho
  have dep:∀ m,(i,m)∈Du→L.getD m false=true:=fun m hm=>VD (hd _ hm) ho hall
  have an5:(12,i)∈Du→L.getD 12 false=false:=fun hm=>by
   cases e:L.getD 12 false with
   | false=>rfl
   | true=>
    have aiw:all[12]? = some all[12]:=by simp [hlen]
    have:=VD (hd _ hm) aiw (hcl 12 _ aiw e)
    rw [hun] at this; cases this
  have e0:a'.tmps.getD 0 undef = .pointer (some ⟨g0,base,none⟩):=by rw [hget 0,hD,← h0]; simp [kZ]
  have e12:a'.tmps.getD 12 undef = .slice (some ⟨b,0,none⟩) N cap:=by rw [hget 12,hD,← h12]; simp [kZ]
  have e15:a'.tmps.getD 15 undef = .int .u8 c.toNat:=by rw [hget 15,hD,← h15]; simp [kZ]
  have e13:(12,i)∈Du→a'.tmps.getD 13 undef = .int .i64 j:=fun hm=>by rw [hget 13,hD,← h13]; simp only [kZ,an5 hm]; simp
  have hs0:∀ m d v,L.getD m false=true→D[m]? = some (d,v)→m<12→a'.tmps.getD d undef=v:=fun m d v hm hv hm2=>by
   rw [hget d,hD]
   rw [hD] at hv
   rcases m with _ | _ | _ | _ | _ | _ | _ | _ | _ | _ | _ | _ | m <;> first | omega | (cases hv; simp only [kZ,hm]; simp)
  have wK:op.op=((Ig[i]?).getD (none,.move (.tmp 0),none)).2.1:=by rw [h1]; rfl
  have hjl:(j:Int)+2=((j+2:Nat):Int):=by omega
  rcases i with _ | _ | _ | _ | _ | _ | _ | _ | _ | _ | _ | _ | _ | i
  ·have hop:op.op = .move (.tmp 13):=wK
   exact ⟨_,by rw [hD]; rfl,by rw [yh L hs _ (by decide)]; simp only [execOp,hop,aq2,e13 (by decide),afN]⟩
  ·have hop:op.op = .move (.tmp 12):=wK
   exact ⟨_,by rw [hD]; rfl,by rw [yh L hs _ (by decide)]; simp only [execOp,hop,aq2,e12,afN]⟩
  ·have hop:op.op = .move (.tmp 13):=wK
   exact ⟨_,by rw [hD]; rfl,by rw [yh L hs _ (by decide)]; simp only [execOp,hop,aq2,e13 (by decide),afN]⟩
  ·have hop:op.op = .slice 311 (.tmp 103) (some (.tmp 104)) none none:=wK
   have f1:=hs0 1 103 _ (dep 1 (by decide)) (by rw [hD]; rfl) (by decide)
   have f2:=hs0 2 104 _ (dep 2 (by decide)) (by rw [hD]; rfl) (by decide)
   exact ⟨_,by rw [hD]; rfl,by rw [yh L hs _ (by decide)]; simp only [execOp,hop,aq2,Option.map_some,Option.map_none,f1,f2,aex,cp3 (W L) b N cap j (by omega) hN hcap,adR,afN]⟩
  ·have hop:op.op = .move (.tmp 0):=wK
   exact ⟨_,by rw [hD]; rfl,by rw [yh L hs _ (by decide)]; simp only [execOp,hop,aq2,e0,afN]⟩
  ·have hop:op.op = .move (.tmp 15):=wK
   exact ⟨_,by rw [hD]; rfl,by rw [yh L hs _ (by decide)]; simp only [execOp,hop,aq2,e15,afN]⟩
  ·have hop:op.op = .nilCheck (.tmp 106):=wK
   have f1:=hs0 4 106 _ (dep 4 (by decide)) (by rw [hD]; rfl) (by decide)
   exact ⟨_,by rw [hD]; rfl,by rw [yh L hs _ (by decide)]; simp only [execOp,hop,aq2,f1]; simp [go_sem]⟩
  ·have hop:op.op = .fieldAddr 346 (.tmp 108) 0:=wK
   have f1:=hs0 6 108 _ (dep 6 (by decide)) (by rw [hD]; rfl) (by decide)
   exact ⟨_,by rw [hD]; rfl,by rw [yh L hs _ (by decide)]; simp only [execOp,hop,aq2,f1,aex,cp7 (W L) g0 base,adR,afN]⟩
  ·have hop:op.op = .indexAddr 344 (.tmp 109) (.tmp 107):=wK
   have f1:=hs0 7 109 _ (dep 7 (by decide)) (by rw [hD]; rfl) (by decide)
   have f2:=hs0 5 107 _ (dep 5 (by decide)) (by rw [hD]; rfl) (by decide)
   exact ⟨_,by rw [hD]; rfl,by rw [yh L hs _ (by decide)]; simp only [execOp,hop,aq2,f1,f2,aex,cp8 (W L) g0 base c.toNat hc8,adR,afN]⟩
  ·have hop:op.op = .load 311 (.tmp 110):=wK
   have f1:=hs0 8 110 _ (dep 8 (by decide)) (by rw [hD]; rfl) (by decide)
   exact ⟨_,by rw [hD]; rfl,by rw [yh L hs _ (by decide)]; simp only [execOp,hop,aq2,f1,aex,cp9 (W L) g0 (base+c.toNat) _ ((hcell L ⟨g0,base+c.toNat,none⟩ hgb).trans htab),adR,afN]⟩
  ·have hop:op.op = .call ⟨.builtin .copy,#[.tmp 105,.tmp 111],#[311,311]⟩:=wK
   have f1:=hs0 3 105 _ (dep 3 (by decide)) (by rw [hD]; rfl) (by decide)
   have f2:=hs0 9 111 _ (dep 9 (by decide)) (by rw [hD]; rfl) (by decide)
   have hwl:W L=w1:=by simp only [W,hun]; simp
   have hws:W (L.setIfInBounds 10 true)=w1.setRow b (cur.toList.take j++[u1,u2]++cur.toList.drop (j+2)).toArray:=by
    have:(L.setIfInBounds 10 true).getD 10 false=true:=by simp [adr,hs]
    simp only [W,this,aiq]
   have hrun:=run_copy_row (P:=aai) w1 311 311 op.type 5 b j (N - j) (cap - j) ⟨q,o,none⟩ 2 cap' cur 5 [u1,u2] ar9 (by kernel_rfl) hrow (by show 2=min 2 (N - j); omega)
    (fun k v hv=>by
     rcases k with _ | _ | k
     ·cases hv; exact hq1
     ·cases hv; exact hq2
     ·cases hv) (by show j+2≤cur.size; omega) (by intro v hv; simp at hv; rcases hv with rfl | rfl <;> assumption)
   refine ⟨_,by rw [hD]; rfl,?_⟩
   rw [hwl]
   show _=Result.ok _ (W (L.setIfInBounds 10 true))
   rw [hws]
   simp only [execOp,hop]
   simp [resolve,invoke,builtin,aq2,f1,f2,hrun,Result.andThen,goInt]
   done
  ·have hop:op.op = .binOp .add 3 (.tmp 102) (.tmp 112) 3:=wK
   have f1:=hs0 0 102 _ (dep 0 (by decide)) (by rw [hD]; rfl) (by decide)
   have f2:=hs0 10 112 _ (dep 10 (by decide)) (by rw [hD]; rfl) (by decide)
   exact ⟨_,by rw [hD]; rfl,by rw [yh L hs _ (by decide)]; simp only [execOp,hop,aq2,f1,f2]; simp [go_sem]; exact wrap64 (by omega) (by unfold maxLen at hcap; omega)⟩
  ·have hop:op.op = .assign (.tmp 113):=wK
   have f1:=hs0 11 113 _ (dep 11 (by decide)) (by rw [hD]; rfl) (by decide)
   exact ⟨_,by rw [hD]; rfl,by rw [yh L hs _ (by decide)]; simp only [execOp,hop,aq2,f1,afN]⟩
  ·omega
 ·have:W (Array.replicate all.size true)=w1.setRow b (cur.toList.take j++[u1,u2]++cur.toList.drop (j+2)).toArray:=by simp [W,Array.getD,hlen]
  rw [this]
  refine done D (by rw [hD]; rfl) ?_
  rw [Gu (n:=13) (k:=0) (by rw [hD]; simp) (by rw [hD,hsz]; simp) (by rw [hD]; simp),hD]
  rfl
theorem R.an6 {C:Cx} {all:Array Oper} {id:Nat} {k:List KI} {s:St} {c y1 y2:UInt8} {j:Nat} {ds:List PD} (hP:C.P=aai) (hdr:C.dr=false)
  (hops:all.toList.map (fun o=>(o.dst,o.op,o.guard))=Ig) (acg:Du.all (fun p=>Sv all p.1 p.2)=true) (hE:(all.toList.zipIdx).all (fun p=>uV p.2 p.1)=true)
  (hn:s.n=122) (h0:s.get 0 = .ref (.ak jy) 0) (h12:s.get 12 = .own 12) (h13:s.get 13 = .pd (.raw (.int .i64 j))) (h15:s.get 15 = .pd (.raw (.int .u8 c.toNat))) (hr:s.row 12=some ⟨5,1,ds⟩)
  (htab:jy.getD c.toNat (.ak []) = .list 1 [U8 y1,U8 y2]) (hj:j+2≤ds.length)
  (next:R C k (((xK.foldl (fun s t=>s.set t .dead) s).setRow 12 ⟨5,1,ds.take j++[U8 y1,U8 y2]++ds.drop (j+2)⟩).set 13 (.pd (.raw (.int .i64 ((j+2:Nat):Int)))))):R C (.code (.region id all true)::k) s:=by
 intro a w E g
 simp only [fin]
 have s0:=g.slots 0; rw [h0] at s0
 have s12:=g.slots 12; rw [h12] at s12
 have s13:=g.slots 13; rw [h13] at s13
 have s15:=g.slots 15; rw [h15] at s15
 have s13:=aN.aK s13
 have s15:=aN.aK s15
 obtain ⟨g0,base,e0,hat⟩:=s0
 rcases g.rows 12 _ hr with ⟨_,hz⟩ | ⟨b,cap,cur,i1,m,i2,i3,i4,i5,i6⟩
 ·simp only at hz; rw [hz] at hj; simp at hj
 rcases s12 _ hr with ⟨h2,_⟩ | ⟨b',cap',h2,h3⟩
 ·rw [h2] at i1; cases i1
 rw [h2] at i1; cases i1
 simp only [ap2] at i2 i3 h3 i6
 have hc8:c.toNat<256:=c.toNat_lt
 obtain ⟨hp1,v,hc1,hv1⟩:=hat c.toNat (by show c.toNat<jy.length; rw [jA]; omega)
 have hv1:Rd w E.G v (.list 1 [U8 y1,U8 y2]):=by rw [← htab]; exact hv1
 have hgb:g0≠b:=fun e=>m.2.1 _ (e ▸ hp1)
 rcases Rd.mG hv1 with ⟨_,_,hx⟩ | ⟨q,o,cq,rfl,_,_,_,hq⟩
 ·cases hx
 obtain ⟨hq0,u1,hu1,hr1⟩:=hq 0 (by simp) 0 (by simp [PD.width])
 obtain ⟨_,u2,hu2,hr2⟩:=hq 1 (by simp) 0 (by simp [PD.width])
 simp only [Nat.zero_mul,Nat.add_zero,Nat.one_mul,apu,arX] at hq0 hu1 hr1 hu2 hr2
 have hqb:q≠b:=fun e=>m.2.1 _ (e ▸ hq0)
 rw [hP]
 refine an4 (g0:=g0) (base:=base) (b:=b) (N:=ds.length) (cap:=cap) (q:=q) (o:=o) (cap':=cq) (j:=j) (c:=c) (cur:=cur) (u1:=u1) (u2:=u2) hops acg hE (g.size.trans hn) (by simpa using e0) h3 s13 s15 m.2.2 i2 i3 hj i4 hgb hqb (by simpa using hc1) hu1 hu2 hr1.oneCell hr2.oneCell ?_
 intro D hD an7
 have g1:=aF.ad3 (D:=D) g (fun p hp=>by
  have:p.1∈xK:=by rw [← hD]; exact adE.2 ⟨p,hp,rfl⟩
  rw [hn]; simp [xK] at this; omega)
 have hfold:D.foldl (fun s p=>s.set p.1 .dead) s=xK.foldl (fun s t=>s.set t .dead) s:=by rw [← hD,List.foldl_map]
 rw [hfold] at g1
 have hb:Go.RowKit.Below w.heap.size w ({ w with drawn:=w.drawn+1 }:World):=⟨rfl,rfl,rfl,aew _,fun _ _=>rfl⟩
 have g2:=g1.J6 (w':=({ w with drawn:=w.drawn+1 }:World)) hb (fun h=>by rw [hdr] at h; cases h) E.G (fun _ _ h=>h) (fun _ _ h=>.inl h)
 have hrow:(xK.foldl (fun s t=>s.set t .dead) s).row 12=some ⟨5,1,ds⟩:=hr
 have hsp:∀ q,q<ds.length→(ds.take j++[U8 y1,U8 y2]++ds.drop (j+2)).getD q (.ak [])=if j≤q∧q<j+2 then [U8 y1,U8 y2].getD (q - j) (.ak []) else ds.getD q (.ak []):=fun q hq=>pR (.ak []) ds [U8 y1,U8 y2] j q (by simpa using hj) hq
 have hdl:(ds.take j++[U8 y1,U8 y2]++ds.drop (j+2)).length=ds.length:=by simp; omega
 have g3:=g2.CX (b:=b) (cap:=cap) hrow h2 (ds.take j++[U8 y1,U8 y2]++ds.drop (j+2)) (cur.toList.take j++[u1,u2]++cur.toList.drop (j+2)).toArray hdl (by simp; omega)
  (fun q hq=>by
   rw [hdl] at hq
   rw [hsp q hq]
   split
   ·rename_i h
    have:q - j=0∨q - j=1:=by omega
    rcases this with e | e <;> rw [e] <;> rfl
   ·exact i5 q hq)
  (fun q jj hq hjj=>by
   rw [hdl] at hq
   have:jj=0:=by simpa using hjj
   subst this
   have hqc:q<cur.toList.length:=by simp; omega
   have ec:((cur.toList.take j++[u1,u2]++cur.toList.drop (j+2)).toArray).getD (q * 1+0) undef=if j≤q∧q<j+2 then [u1,u2].getD (q - j) undef else cur.toList.getD q undef:=by
    rw [adr,agl,← aax,ap2,Nat.add_zero]
    exact pR undef cur.toList [u1,u2] j q (by simp; omega) hqc
   rw [ec,hsp q hq]
   by_cases h:j≤q∧q<j+2
   ·rw [adA h,adA h]
    have:q - j=0∨q - j=1:=by omega
    rcases this with e | e
    ·rw [e]; exact hr1.keep (Keeps.tN g.gw hb fun _ _ h=>h)
    ·rw [e]; exact hr2.keep (Keeps.tN g.gw hb fun _ _ h=>h)
   ·rw [adt h,adt h]
    have:=(i6 q 0 hq (by decide)).keep (Keeps.tN g.gw hb fun _ _ h=>h)
    simpa [adr,aax] using this)
 have hsn:((xK.foldl (fun s t=>s.set t .dead) s).setRow 12 ⟨5,1,ds.take j++[U8 y1,U8 y2]++ds.drop (j+2)⟩).n=122:=hn
 have g4:=g3.CW (t:=13) (v:=.pd (.raw (.int .i64 ((j+2:Nat):Int)))) (by show 13<_; rw [hsn]; decide) (by rw [an7]; exact .raw _ rfl) (by simp)
 exact next _ _ _ g4
end Go.Proofs.Z
