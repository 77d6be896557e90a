/- A part of the proof. -/
import Derived.Test.YtjbhhddfaohdnaaGreatDoorPDet
import Derived.Lib.JoinLaws
import Derived.Test.YtjbhhddfaohdnaaGreatDoorPT10
set_option linter.all false
set_option linter.deprecated false
open Array renaming replicate→afQ,length_toList→af7
open Go renaming wpList_plain→agp
open Go.Oper renaming wp→am7,upon_value→agz
open Go.Result renaming andThen_ok→adR
open Go.Sem renaming run_bind→aex,run_pure→afN
open Int renaming cast_ofNat_Int→ajj,reduceBEq→ao5,toNat_zero→afY,reduceBNe→apg,reduceToNat→anh,reduceLT→apt,reduceLE→apm,reduceAdd→aph,reduceSub→apj,reduceGE→aqa,reduceNeg→ap1
open List renaming range→agi,length→af0
section
namespace Go.au
theorem OA {P:Program} {f:FuncId} {fn:Func} {c:Code} {args:List SV} {w:World} {G:Pub} {vals:Array Value} {Q:Ending→World→Prop} (hf:P.funcs[f]? = some fn) (hb:fn.body=some c) (hn:args.length≤fn.ntmps) (hG:Good w G) (hs:vals.size=args.length)
  (hv:∀ i,i<args.length→jP P w G (vals.getD i undef) (args.getD i .dead)) (h:R (Cx.seg P w G (bodyPost P fn Q) []) [.code c] (St.bn fn.ntmps args [])):Calls P f vals w Q:=by
 refine calls_of_wp hf hb ?_
 let E:Env:=⟨G,fun _=>0,fun _=>none,fun _=>0⟩
 have hget:∀ t,(St.bn fn.ntmps args []).get t=args.getD t .dead:=by
  intro t; simp only [St.get,St.bn,mO]; simp [aax]
 have lV:∀ t,jP P w G ((vals++afQ (fn.ntmps - vals.size) undef).getD t undef) (args.getD t .dead):=by
  intro t
  by_cases ht:t<args.length
  ·have h1:t<vals.size:=by omega
   have:(vals++afQ (fn.ntmps - vals.size) undef).getD t undef=vals.getD t undef:=by
    simp only [adr,ao9 h1]
   rw [this]; exact hv t ht
  ·have:args.getD t .dead = .dead:=by simp [aax,ao6 (asV ht)]
   rw [this]; trivial
 have nb:∀ t cs,(St.bn fn.ntmps args []).get t≠.box cs:=fun t cs=>by rw [hget]; exact ((lV t).rel (E:=E) rfl (row:=fun _=>none)).2 cs
 have g:aF (Cx.seg P w G (bodyPost P fn Q) []) (St.bn fn.ntmps args []) { tmps:=vals++afQ (fn.ntmps - vals.size) undef,defers:=[] } w E:={
  kept:=Kept.refl _ _ _
  bG:=fun t=>by simp only [St.fH,St.bn,lk,Option.getD_none]; trivial
  maps:=fun r m h=>by simp [St.map,St.bn,lk] at h
  dU:=fun t b h=>by cases h
  dN:=fun i p h=>by cases h
  dD:=fun i r p h=>by simp [St.row,St.bn,lk] at h
  defers:=rfl
  size:=by simp only [aqK,ari]; show _=fn.ntmps; omega
  g0:=fun _ _ h=>h
  g1:=fun _ _ h=>.inl h
  tab:=hG.tab
  gw:=hG.lt
  slots:=fun t=>by rw [hget]; exact ((lV t).rel rfl).1
  vars:=fun t cs h=>by simp [St.var,St.bn,lk] at h
  rows:=fun i r h=>by simp [St.row,St.bn,lk] at h
  boxes:=fun t cs h=>(nb t cs h).elim
  vv:=fun t t' cs cs' h=>by simp [St.var,St.bn,lk] at h
  rr:=fun i i' r r' p h=>by simp [St.row,St.bn,lk] at h
  vr:=fun t cs i r p h=>by simp [St.var,St.bn,lk] at h
  bb:=fun t t' cs cs' h=>(nb t cs h).elim
  bv:=fun t t' cs cs' h=>(nb t cs h).elim
  br:=fun t cs i r p h=>(nb t cs h).elim }
 have:=h _ w E g
 simp only [fin] at this
 exact wp_mono this (fun e a w h=>h)
theorem Zx {α:Type} (k:Nat) (x y:α):∀ (l:List (Nat × α)),up k x (up k y l)=up k x l
 | []=>by simp [up]
 | (j,z)::l=>by
  simp only [up]
  split
  ·simp [up]
  ·rename_i h; simp [up,h,Zx k x y l]
section
variable {C:Cx} {s:St} {a:Act} {w w':World} {E:Env} {k:List KI} {all:Array Oper} {l:List Oper} {o:Oper}
theorem R.ab9 {t e:TypeId} {x y:Operand} {k1 k2:IntKind} {d n by':Nat} {z:Value} (id:Nat) (hid:C.iH id=none) (ho:o.op = .makeSlice t x y) (hg:o.guard=none) (hd:o.dst=some d) (hn:d<s.n) (hx:aU s x = .pd (.raw (.int k1 0))) (hy:aU s y = .pd (.raw (.int k2 n)))
  (ht:fA C.P t=some e) (hi:(C.P.info? e).map (fun i=>(i.zero,i.size,i.bytes))=some (some z,1,by')) (hz:z.cells = #[z]) (hb:by' * n≤281474976710656) (h63:n≤maxLen)
  (next:R C (.ops all l::k) ((s.newRow id ⟨e,1,[]⟩).set d (.own id))):R C (.ops all (o::l)::k) s:=by
 intro a w E g
 refine agp hg fun K hK=>?_
 have h1:=aY g x; rw [hx] at h1
 have h2:=aY g y; rw [hy] at h2
 have h1:=aN.aK h1
 have h2:=aN.aK h2
 have hrun:=run_make_room (P:=C.P) t e z by' (iE ht) hi hz k1 k2 n hb (by simpa [maxLen] using h63) w
 unfold am7 execOp
 simp only [ho,h1,h2,aex,hrun,adR,afN,agz]
 simp only [hd]
 have hsize:(madeCells #[z] n).size=n:=size_madeCells _ _
 have g1:=g.row (i:=id) (r':=⟨e,1,[]⟩) (w':=w.alloc (.cells (madeCells #[z] n) e)) (some (w.heap.size,n)) (Keeps.of_below g.gw (dQ w _) (fun _ _ h=>h)) (g.kept.trans (.of_below (dQ w _))) (by simp) (fun p hp=>by rw [hid] at hp; cases hp)
  (fun b hb _=>heap_alloc_old w _ hb) (.inr ⟨w.heap.size,n,_,rfl,⟨.inl g.kept.size,fun n hn=>by have:=g.gw _ _ hn; omega,heap_alloc_new w _⟩,by simp [hsize],by simp,h63,fun k hk=>by simp at hk,fun k j hk hj=>by simp at hk⟩) (fun b c h=>by cases h; exact .inl (aew _))
 exact hK _ _ (next _ _ _ (g1.put hn (fun r' hr'=>.inr ⟨w.heap.size,n,by simp,by
  rw [St.iK,adA rfl] at hr'; cases hr'; simp⟩) (by simp)))
theorem R.Sm {src dst e:TypeId} {x:Operand} {bs:List UInt8} (ho:o.op = .convert src dst x) (hg:o.guard=none) (hd:bP s o) (hx:aU s x = .pd (.list 1 (bs.map fun c=>.raw (.int .u8 (c.toNat:Int)))))
  (hs:fA C.P src=some e) (he:DI C.P e=some .u8) (ht:DF C.P dst=true) (hne:bs≠[])
  (next:R C (.ops all l::k) (s.put o.dst (.pd (.raw (.string ⟨bs.toArray⟩))))):R C (.ops all (o::l)::k) s:=by
 refine R.Dt hg hd (by simp) (fun a w E g=>?_) next
 have h1:=aY g x; rw [hx] at h1
 refine ⟨.string ⟨bs.toArray⟩,?_,.raw _ rfl⟩
 rcases Rd.mG h1 with ⟨_,_,h0⟩ | ⟨b,off,cap,hv,_,_,hw,hr⟩
 ·simp at h0; exact (hne h0).elim
 ·have hrun:=run_convert_bytes_back (P:=C.P) w src dst e ⟨b,off,none⟩ cap bs (iE hs) (DK he) (wo ht) (fun j hj=>by
   obtain ⟨_,v,h2,h3⟩:=hr j (by simpa using hj) 0 (by simp [hj,PD.width])
   have e1:(bs.map fun c=>PD.raw (.int .u8 (c.toNat:Int))).getD j (.ak []) = .raw (.int .u8 (bs[j].toNat:Int)):=by simp [hj]
   rw [e1] at h3
   have h3:=aN.aK (G:=E.G) (w:=w) h3
   subst h3
   rw [addr_add]
   simpa using h2)
  simp only [adu] at hv
  unfold execOp
  simp [ho,hv,hrun]
theorem R.Ny {src dst e:TypeId} {x:Operand} {b:ByteArray} (hdr:C.dr=false) (ho:o.op = .convert src dst x) (hg:o.guard=none) (hd:bP s o) (hx:aU s x = .pd (.raw (.string b)))
  (hs:DF C.P src=true) (ht:fA C.P dst=some e) (he:DI C.P e=some .u8) (hb:b.size≤maxLen)
  (next:R C (.ops all l::k) (s.put o.dst (.pd (.list 1 (b.data.toList.map fun c=>.raw (.int .u8 (c.toNat:Int))))))):R C (.ops all (o::l)::k) s:=by
 intro a w E g
 refine agp hg fun K hK=>?_
 have h1:=aY g x; rw [hx] at h1
 have h1:=aN.aK h1
 have hrun:=run_bytes_of_string (P:=C.P) w src dst e b (wo hs) (iE ht) (DK he)
 unfold am7 execOp
 simp only [ho,h1,aex,hrun,adR,afN,agz]
 generalize hcap:grownCap w b.size 0 e=cap
 have hc1:b.size≤cap:=by rw [← hcap]; exact grownCap_ge _ _ _ _
 have hc2:cap≤maxLen:=by rw [← hcap]; exact grownCap_le_maxLen _ _ _ _ hb
 generalize hw':w.drew.alloc (.cells (bytesRow b cap) e ((bytesRow b cap).size,(bytesRow b cap).size+1))=w'
 have hbel:Below w.heap.size w w':=by
  rw [← hw']
  exact ((Below.refl _ w).drew).alloc (aew _) _
 have hsz:w'.heap.size=w.heap.size+1:=by rw [← hw']; simp
 have g1:=g.grow hbel (fun q o=>E.G q o∨q=w.heap.size) (fun _ _ h=>.inl h) (fun q o h=>by
  rcases h with h | h
  ·exact .inl h
  ·exact .inr ⟨by omega,by omega⟩)
 have hlen:b.data.toList.length=b.size:=af7
 have hrd:Rd w' (fun q o=>E.G q o∨q=w.heap.size) (.slice (some ⟨w.heap.size,0,none⟩) b.size cap) (.list 1 (b.data.toList.map fun c=>.raw (.int .u8 (c.toNat:Int)))):=by
  have e0:b.size=(b.data.toList.map fun c=>PD.raw (.int .u8 (c.toNat:Int))).length:=by rw [adu,hlen]
  rw [e0] at hc1 ⊢
  refine Rd.pO hc1 hc2 (fun i hi=>?_) (fun i hi=>?_)
  ·simp only [adu] at hi
   rw [aax,ano,af4 hi]; rfl
  ·simp only [adu] at hi
   have e1:(b.data.toList.map fun c=>PD.raw (.int .u8 (c.toNat:Int))).getD i (.ak []) = .raw (.int .u8 (b.data.toList[i].toNat:Int)):=by
    rw [aax,ano,af4 hi]; rfl
   rw [e1]
   intro j hj
   have hj:j=0:=by simpa [PD.width] using hj
   subst hj
   refine ⟨.inr rfl,.int .u8 (b.data.toList[i].toNat:Int),?_,.raw _ rfl⟩
   rw [← hw']
   have hi2:i<b.data.size:=by rw [af7] at hi; exact hi
   have:=World.cell?_alloc_mark w.drew (bytesRow b cap) e ((bytesRow b cap).size,(bytesRow b cap).size+1) i
   have hsd:w.drew.heap.size=w.heap.size:=rfl
   rw [hsd] at this
   simp only [ap2,ao8,Nat.add_zero]
   rw [this,bytesRow_at b cap i hi2]
   simp
 exact hK _ _ (next _ _ _ (g1.iC hd hrd (by simp)))
theorem R.Zy {t:TypeId} {f d1 d2 n i y:Nat} {r:Row} {zs:List Value} {o1 o2 o3:Oper} (h1:o1.op = .build t #[(f,.tmp y)]) (hg1:o1.guard=none) (hd1:o1.dst=some d1) (h2:o2.op = .alloc t) (hg2:o2.guard=none) (hd2:o2.dst=some d2) (h3:o3.op = .store t (.tmp d2) (.tmp d1)) (hg3:o3.guard=none) (hd3:o3.dst=none)
  (hn1:d1<s.n) (hn2:d2<s.n) (hne:d1≠d2) (hy1:y≠d1) (hy2:y≠d2) (hv0:C.vb0 d2=none) (hy:s.get y = .own i) (hr:s.row i=some r) (hz:bM C.P t=some zs) (hzo:∀ v∈zs,v.oneCell'=true) (hsz:aO C.P t=zs.length) (hn:n<zs.length)
  (hb:∀ p m c w,(Instr.build t #[(f,.slice p m c)]).run C.P w = .ok (.agg (zs.toArray.setIfInBounds n (.slice p m c))) w)
  (next:R C (.ops all l::k) (((s.set d1 .dead).set d2 (.box zs)).newVar d2 ((zs.map fun v=>.pd (.raw v)).set n (.own i)))):R C (.ops all (o1::o2::o3::l)::k) s:=by
 intro a w E g
 have hya:∃ p m c,a.tmps.getD y undef = .slice p m c:=by
  have:=g.slots y
  rw [hy] at this
  rcases this r hr with ⟨_,h⟩ | ⟨b,cap,_,h⟩
  ·exact ⟨_,_,_,h⟩
  ·exact ⟨_,_,_,h⟩
 obtain ⟨p,m,c,hya⟩:=hya
 have hys:y<s.n∨s.n≤y:=by omega
 generalize hagg:zs.toArray.setIfInBounds n (.slice p m c)=cells
 have hcs:cells.size=zs.length:=by rw [← hagg]; simp
 have hsize:=g.size
 refine agp hg1 fun K hK=>?_
 have hrun1:(execOp a.eval o1).run C.P w = .ok (.value (.agg cells)) w:=by
  unfold execOp
  simp only [h1,apo,ads,adG,Act.eval,aex]
  have:(Instr.build t #[(f,a.tmps.getD y undef)]).run C.P w = .ok (.agg cells) w:=by rw [hya,hb,hagg]
  rw [this]; rfl
 unfold am7
 rw [hrun1,agz,hd1]
 refine hK _ _ ?_
 have g1:=g.dead (t:=d1) hn1 (.agg cells)
 refine agp hg2 fun K2 hK2=>?_
 obtain ⟨z,Fq,hzc⟩:=xA (P:=C.P) (w:=w) hz
 have hcells:z.cells=zs.toArray:=by rw [← hzc]
 unfold am7 execOp
 simp only [h2,aex,Instr.alloc,Fq,adR,afN,newVar,newRow,run_newObj,agz,hcells,hd2]
 refine hK2 _ (w.alloc (.cells zs.toArray t)) ?_
 have g2:=g1.box (t:=d2) (by exact hn2) zs hzo t
 have g3:=g2.Ym (t:=d2) (zs:=zs) hv0 (by simp [St.gW])
 refine agp hg3 fun K3 hK3=>?_
 generalize hE:({ G:=E.G,vb:=fun j=>if j=d2 then (fun j=>if j=d2 then w.heap.size else E.bx j) d2 else E.vb j,rb:=E.rb,bx:=fun j=>if j=d2 then w.heap.size else E.bx j }:Env)=E3 at *
 have hvb:E3.vb d2=w.heap.size:=by rw [← hE]; simp
 have hvar:(((s.set d1 .dead).set d2 (.box zs)).newVar d2 (zs.map fun v=>.pd (.raw v))).var d2=some (zs.map fun v=>.pd (.raw v)):=by simp [St.J7]
 have g3':aF C (((s.set d1 .dead).set d2 (.box zs)).newVar d2 (zs.map fun v=>.pd (.raw v))) ((a.put (some d1) (.agg cells)).put (some d2) (.pointer (some ⟨w.heap.size,0,none⟩))) (w.alloc (.cells zs.toArray t)) E3:=g3
 obtain ⟨cur,e,mm,hcur,hr3⟩:=g3'.vars d2 _ hvar
 rw [hvb] at mm
 have e1:((a.put (some d1) (.agg cells)).put (some d2) (.pointer (some ⟨w.heap.size,0,none⟩))).tmps.getD d1 undef = .agg cells:=by
  rw [gK _ _ _ _ (by simp [Act.put,hsize]; exact hn2),adt hne,gK _ _ _ _ (by rw [hsize]; exact hn1),adA rfl]
 have e2:((a.put (some d1) (.agg cells)).put (some d2) (.pointer (some ⟨w.heap.size,0,none⟩))).tmps.getD d2 undef = .pointer (some ⟨w.heap.size,0,none⟩):=by
  rw [gK _ _ _ _ (by simp [Act.put,hsize]; exact hn2),adA rfl]
 have e3:((a.put (some d1) (.agg cells)).put (some d2) (.pointer (some ⟨w.heap.size,0,none⟩))).tmps.getD y undef = .slice p m c:=by
  rw [gK _ _ _ _ (by simp [Act.put,hsize]; exact hn2),adt hy2,gK _ _ _ _ (by rw [hsize]; exact hn1),adt hy1,hya]
 have hone:∀ v∈cells.toList,v.oneCell'=true:=by
  intro v hv
  rw [← hagg] at hv
  simp only [asr] at hv
  rcases List.mem_or_eq_of_mem_set hv with h | h
  ·exact hzo v h
  ·rw [h]; rfl
 have hcl:cells.toList.length=zs.length:=by rw [af7]; exact hcs
 have ad7:cur.size=zs.length:=by rw [hcur]; simp
 have hst:=run_storeCells_at C.P w.heap.size 0 e cells.toList 0 cur (w.alloc (.cells zs.toArray t)) mm.2.2 (by rw [hcl,ad7]; omega) hone
 have hsz0:aO C.P t≠0:=by rw [hsz]; omega
 generalize hrow:(cur.toList.take 0++cells.toList++cur.toList.drop (0+cells.toList.length)).toArray=cur'
 have ad8:cur'=cells:=by
  rw [← hrow]
  apply Array.ext'
  simp [hcl,ad7]
 have hrun:(Instr.storeAt t (.pointer (some ⟨w.heap.size,0,none⟩)) (.agg cells)).run C.P (w.alloc (.cells zs.toArray t)) = .ok () ((w.alloc (.cells zs.toArray t)).setRow w.heap.size cur'):=by
  simp only [Instr.storeAt,Instr.sureAddr,aex,afN,adR,storeVar,jE hsz0]
  have hc2:(Value.agg cells).cells=cells:=rfl
  rw [adt (by rw [hc2,hcs,hsz]; simp)]
  rw [← hrow]
  simpa [hc2] using hst
 unfold am7 execOp
 simp only [h3,Act.eval] at e1 e2 ⊢
 simp only [e1,e2,aex,hrun,adR,afN,Oper.upon_skip,hd3]
 refine hK3 _ _ ?_
 have hset:(((zs.map fun v=>SV.pd (.raw v)).set n (.own i))).length=zs.length:=by simp
 have g4:=g3'.store (cs':=(zs.map fun v=>.pd (.raw v)).set n (.own i)) hvar cur' (by rw [hset,ad8,hcs]) (fun j hj=>by
  rw [hset] at hj
  rw [ad8,← hagg]
  by_cases hjn:j=n
  ·subst hjn
   have e4:(zs.toArray.setIfInBounds j (.slice p m c)).getD j undef = .slice p m c:=by simp [adr,hn]
   have e5:((zs.map fun v=>SV.pd (.raw v)).set j (.own i)).getD j .dead = .own i:=by simp [hn]
   rw [e4,e5]
   refine ⟨rfl,?_⟩
   have h5:=g3'.slots y
   rw [e3,St.uK,adt hy2,St.gW,adt hy2,St.gW,adt hy1,hy] at h5
   exact h5
  ·have e4:(zs.toArray.setIfInBounds n (.slice p m c)).getD j undef=zs[j]:=by
    rw [adr,aqr (aqm hjn)]; simp [hj]
   have e5:((zs.map fun v=>SV.pd (.raw v)).set n (.own i)).getD j .dead = .pd (.raw zs[j]):=by
    rw [aax,asM (aqm hjn)]; simp [hj]
   rw [e4,e5]
   exact ⟨hzo _ (aaO hj),.raw _ (hzo _ (aaO hj))⟩)
 rw [hvb] at g4
 have hs2:((((s.set d1 .dead).set d2 (.box zs)).newVar d2 (zs.map fun v=>.pd (.raw v))).setVar d2 ((zs.map fun v=>.pd (.raw v)).set n (.own i)))=(((s.set d1 .dead).set d2 (.box zs)).newVar d2 ((zs.map fun v=>.pd (.raw v)).set n (.own i))):=by
  simp only [St.setVar,St.newVar,Zx]
 rw [hs2] at g4
 exact next _ _ _ g4
end
end Go.au
end
section
namespace Go.Proofs.Z
open Go Go.au Go.Proofs
set_option maxRecDepth 100000
set_option maxHeartbeats 4000000
theorem sS:fA Tryz.prog 344=none:=by kernel_rfl
theorem sU:arT Tryz.prog 344=some 256:=by kernel_rfl
abbrev str (l:List UInt8):ByteArray:=⟨l.toArray⟩
abbrev U8 (c:UInt8):PD:=.raw (.int .u8 (c.toNat:Int))
abbrev BZ:PD:=.raw (.slice none 0 0)
def JA (i:Nat):PD:=if i=10 then .list 1 [U8 92,U8 110] else if i=34 then .list 1 [U8 92,U8 34] else if i=92 then .list 1 [U8 92,U8 92] else BZ
def lI:List UInt8:=[10,92,34]
abbrev Ie (l:List UInt8):List PD:=l.map fun c=>S (str [c])
def jy:List PD:=(agi 256).map JA++[.list 1 (Ie lI)]
theorem jA:jy.length=257:=by simp [jy]
theorem Nz {i:Nat} (h:i<256):jy.getD i (.ak [])=JA i:=by simp [jy,aax,af8,h]
theorem wJ:jy.getD 256 (.ak []) = .list 1 (Ie lI):=by simp [jy,aax]
def Sr (k i:Nat):PD:=if i=10 then (if 1≤k then .list 1 [U8 92,U8 110] else BZ) else if i=34 then (if 3≤k then .list 1 [U8 92,U8 34] else BZ) else if i=92 then (if 2≤k then .list 1 [U8 92,U8 92] else BZ) else BZ
def jT (k:Nat):List SV:=(agi 256).map (fun i=>.pd (Sr k i))++[.own 94]
theorem fP (k:Nat):(jT k).length=257:=by simp [jT]
theorem fQ (k:Nat):(jT k).getD 256 .dead = .own 94:=by simp [jT,aax]
theorem Cb (k:Nat):((jT k).map (SV.aQ 94)).take 256++[.own 94]++((jT k).map (SV.aQ 94)).drop 257=jT k:=by
 simp only [jT,aei,apC,ads,adG,SV.aQ,aiq]
 have e:(List.map (SV.aQ 94 ∘ fun i=>SV.pd (Sr k i)) (agi 256))=(agi 256).map fun i=>.pd (Sr k i):=rfl
 rw [e,List.take_left' (by simp),auM (by simp)]
 simp
theorem Xm:(jT 0).getD 10 .dead = .pd BZ:=by kernel_rfl
theorem Xn:(jT 1).getD 92 .dead = .pd BZ:=by kernel_rfl
theorem Xo:(jT 2).getD 34 .dead = .pd BZ:=by kernel_rfl
def oV:List ByteArray:=[str [34],str [92,34],str [92],str [92,92],str [10],str [92,110]]
abbrev rpl (a b c d:Value) (old:List ByteArray):PD:=.ak [.raw a,.raw b,.raw c,.raw d,strs old]
def Qe:List Value:=List.replicate 257 (.slice none 0 0)
theorem alb:bM Tryz.prog 346=some Qe:=by kernel_rfl
theorem acd (p:Option Addr) (m c:Nat) (w:World):(Instr.build 346 #[(1,.slice p m c)]).run Tryz.prog w = .ok (.agg (Qe.toArray.setIfInBounds 256 (.slice p m c))) w:=by kernel_rfl
theorem Xp:(Qe.map fun v=>SV.pd (.raw v)).set 256 (.own 94)=jT 0:=by kernel_rfl
theorem Zz {var:Nat→Option (List SV)} {row:Nat→Option Row} (h:row 94=some ⟨9,1,Ie (lI.take 3)⟩) (j:Nat) (hj:j<257):Cv var row ((jT 3).getD j .dead) ((PD.ak jy).cell j):=by
 show Cv _ _ _ (jy.getD j (.ak []))
 by_cases e:j=256
 ·subst e
  rw [fQ,wJ]
  exact .own 94 ⟨9,1,Ie (lI.take 3)⟩ h
 ·have h2:j<256:=by omega
  rw [Nz h2]
  have e:(jT 3).getD j .dead = .pd (JA j):=by
   have:Sr 3 j=JA j:=by simp [Sr,JA]
   rw [← this]
   simp [jT,aax,af8,h2]
  rw [e]; exact .pd _
def Built (w:World) (G:Pub) (e:Ending) (w':World):Prop:=
 ∃ g,e = .returned (.iface 347 (.pointer (some ⟨g,0,none⟩)))∧w.heap.size≤g∧lX w' (G.new w.heap.size) g 0 (.ak jy)∧Go.RowKit.Below w.heap.size w w'
theorem sG:IntKind.i64.wrap (-2) = -2∧IntKind.i64.wrap 0=0∧IntKind.i64.wrap 1=1∧IntKind.i64.wrap 2=2∧IntKind.i64.wrap 3=3∧IntKind.i64.wrap 4=4∧IntKind.i64.wrap 5=5∧IntKind.i64.wrap 6=6:=by decide
theorem zN:(10:UInt8).toNat=10∧(34:UInt8).toNat=34∧(92:UInt8).toNat=92∧(110:UInt8).toNat=110:=by decide
theorem lZ (x:UInt8):(str [x]).size=1:=rfl
theorem nG (x y:UInt8):(str [x,y]).size=2:=rfl
def i2:Nat→Int | 0=>0 | 1=>2 | 2=>4 | _=>6
def b2:Nat→Bool | 0=>true | _=>false
def j2:Nat→Int | 0=>4 | 1=>2 | 2=>0 | _=>-2
theorem an3:j2 0=4:=rfl
theorem air:j2 1=2:=rfl
theorem ais:j2 2=0:=rfl
theorem ait:j2 3 = -2:=rfl
theorem ace (w:World) (G:Pub) (p a b c d:Value) (hG:Go.au.Good w G) (hp:jP Tryz.prog w G p (.ref (rpl a b c d oV) 0)):Calls Tryz.prog 322 #[p] w (Built w G):=by
 refine OA (args:=[.ref (rpl a b c d oV) 0]) Tryz.func322 rfl (by simp [Tryz.ntmps322]) hG rfl (fun i hi=>by
  obtain rfl:i=0:=by simpa using hi
  exact hp) ?_
 simp only [oV]
 apply aj; simp only [go_sem,↓reduceIte,ajj,ao5,afY]
 refine R.fU (fun (k:Nat) s=>St.lp [3,6,7,8,9,10,11,12,13,14,59,60,61,62,63,64,65,66,67,68,69,70,71,72,73,74,75,76,77,78,79,80,81,82,83,84,85,86,87,88,89,90,91,92,93,94,95,96,97,98,99,100,101,102,103,104,105,106,107,108,109,110,111,112,113,114,115,116,117,118,119,120,121,122,123,124,125,126,127,128,129,130,131] [(5,.pd (I (i2 k))),(4,.pd (B (b2 k)))] [6,11] [] [] [] s) (fun (k:Nat)=>k≤3) (fun (k:Nat)=>3 - k) (0) (by omega) ?_
 intro k hk
 have hcs:k=0∨k=1∨k=2∨k=3:=by omega
 rcases hcs with rfl | rfl | rfl | rfl
 ·apply aj; simp only [go_sem,↓reduceIte,i2,b2,ajj,ao5,apg,afY,anh,apt,apm,aph,apj,gY,lZ,nG,sG,apa,anq]
  refine R.fE 1 (by omega) (hm:=by decide) (l:=by (simp only [go_sem,i2,b2]); all_goals (and_intros <;> rfl))
 ·apply aj; simp only [go_sem,↓reduceIte,i2,b2,ajj,ao5,apg,afY,anh,apt,apm,aph,apj,gY,lZ,nG,sG,apa,anq]
  refine R.fE 2 (by omega) (hm:=by decide) (l:=by (simp only [go_sem,i2,b2]); all_goals (and_intros <;> rfl))
 ·apply aj; simp only [go_sem,↓reduceIte,i2,b2,ajj,ao5,apg,afY,anh,apt,apm,aph,apj,gY,lZ,nG,sG,apa,anq]
  refine R.fE 3 (by omega) (hm:=by decide) (l:=by (simp only [go_sem,i2,b2]); all_goals (and_intros <;> rfl))
 ·apply aj; simp only [go_sem,↓reduceIte,i2,b2,ajj,ao5,apg,afY,anh,apt,apm,aph,apj,gY,lZ,nG,sG,apa,anq]
  refine ⟨by omega,?_⟩
  refine R.ab9 (n:=3) (z:=.string ByteArray.empty) (by':=16) 94 rfl rfl rfl rfl (by (simp only [go_sem])) rfl rfl F5 (by rw [Vl]; kernel_rfl) rfl (by decide) (by decide) ?_
  refine R.Zy (n:=256) (zs:=Qe) (y:=94) (i:=94) (r:=⟨9,1,[]⟩) rfl rfl rfl rfl rfl rfl rfl rfl rfl (by (simp only [go_sem])) (by (simp only [go_sem])) (by decide) (by decide) (by decide) rfl rfl rfl alb (fun v hv=>by rw [List.eq_of_mem_replicate hv]; rfl) (by rw [Vl]; kernel_rfl) (by decide) acd ?_
  rw [Xp]
  apply ev8; simp only [go_sem,ajj,ao5,apg,afY,anh,apt,apm,aph,apj,gY,lZ,nG,sG,apa,anq]
  refine R.fU (fun (k:Nat) s=>St.lp [2,3,11,131] [(12,.pd (I (j2 k)))] [6] [(11,jT k)] [] [(94,⟨9,1,Ie (lI.take k)⟩)] s) (fun (k:Nat)=>k≤3) (fun (k:Nat)=>3 - k) (0) (by omega) ?_
  clear hk
  intro k hk
  have hcs:k=0∨k=1∨k=2∨k=3:=by omega
  rcases hcs with rfl | rfl | rfl | rfl
  ·apply aj; simp only [go_sem,↓reduceIte,an3,fP,fQ,Xm,sS,sU,zN,ajj,ao5,apg,afY,anh,apt,apm,aqa,aph,apj,ap1,aq1,gY,lZ,nG,sG,apa,anq]
   refine R.Xl rfl rfl (ah (by (simp only [go_sem]))) rfl rfl nP ?_
   apply aj; simp only [go_sem,↓reduceIte,fP,fQ,zN,ajj,ao5,apg,afY,anh,apt,apm,aqa,aph,apj,ap1,aq1,gY,lZ,nG,sG,apa,anq]
   refine R.Sm (bs:=[10]) rfl rfl (ah (by (simp only [go_sem]))) rfl nP Oo Oq (by simp) ?_
   apply aj; simp only [go_sem,↓reduceIte,fP,fQ,zN,ajj,ao5,apg,afY,anh,apt,apm,aqa,aph,apj,ap1,aq1,gY,lZ,nG,sG,apa,anq]
   refine R.dF (d:=S (str [10])) 1000 16 rfl rfl (by (simp only [go_sem])) rfl rfl rfl rfl F5 rfl Q8 (by simp) (congrArg (Option.map af0) Rh) rfl Q9 (by simp [lI]) (by decide) (by decide) ?_
   apply aj; simp only [go_sem,↓reduceIte,fP,fQ,Cb,adu,zN,ajj,ao5,apg,afY,anh,apt,apm,aqa,aph,apj,ap1,aq1,gY,lZ,nG,sG,apa,anq]
   refine R.Ny (b:=str [92,110]) rfl rfl rfl (ah (by (simp only [go_sem]))) rfl Oq nP Oo (by decide) ?_
   apply aj; simp only [go_sem,↓reduceIte,fP,fQ,adu,sS,sU,zN,ajj,ao5,apg,afY,anh,apt,apm,aqa,aph,apj,ap1,aq1,gY,lZ,nG,sG,apa,anq]
   refine R.fE 1 (by omega) (hm:=by decide) (l:=by (simp only [go_sem,air]); all_goals (and_intros <;> rfl))
  ·apply aj; simp only [go_sem,↓reduceIte,air,fP,fQ,Xn,sS,sU,zN,ajj,ao5,apg,afY,anh,apt,apm,aqa,aph,apj,ap1,aq1,gY,lZ,nG,sG,apa,anq]
   refine R.Xl rfl rfl (ah (by (simp only [go_sem]))) rfl rfl nP ?_
   apply aj; simp only [go_sem,↓reduceIte,fP,fQ,zN,ajj,ao5,apg,afY,anh,apt,apm,aqa,aph,apj,ap1,aq1,gY,lZ,nG,sG,apa,anq]
   refine R.Sm (bs:=[92]) rfl rfl (ah (by (simp only [go_sem]))) rfl nP Oo Oq (by simp) ?_
   apply aj; simp only [go_sem,↓reduceIte,fP,fQ,zN,ajj,ao5,apg,afY,anh,apt,apm,aqa,aph,apj,ap1,aq1,gY,lZ,nG,sG,apa,anq]
   refine R.dF (d:=S (str [92])) 1000 16 rfl rfl (by (simp only [go_sem])) rfl rfl rfl rfl F5 rfl Q8 (by simp) (congrArg (Option.map af0) Rh) rfl Q9 (by simp [lI]) (by decide) (by decide) ?_
   apply aj; simp only [go_sem,↓reduceIte,fP,fQ,Cb,adu,zN,ajj,ao5,apg,afY,anh,apt,apm,aqa,aph,apj,ap1,aq1,gY,lZ,nG,sG,apa,anq]
   refine R.Ny (b:=str [92,92]) rfl rfl rfl (ah (by (simp only [go_sem]))) rfl Oq nP Oo (by decide) ?_
   apply aj; simp only [go_sem,↓reduceIte,fP,fQ,adu,sS,sU,zN,ajj,ao5,apg,afY,anh,apt,apm,aqa,aph,apj,ap1,aq1,gY,lZ,nG,sG,apa,anq]
   refine R.fE 2 (by omega) (hm:=by decide) (l:=by (simp only [go_sem,ais]); all_goals (and_intros <;> rfl))
  ·apply aj; simp only [go_sem,↓reduceIte,ais,fP,fQ,Xo,sS,sU,zN,ajj,ao5,apg,afY,anh,apt,apm,aqa,aph,apj,ap1,aq1,gY,lZ,nG,sG,apa,anq]
   refine R.Xl rfl rfl (ah (by (simp only [go_sem]))) rfl rfl nP ?_
   apply aj; simp only [go_sem,↓reduceIte,fP,fQ,zN,ajj,ao5,apg,afY,anh,apt,apm,aqa,aph,apj,ap1,aq1,gY,lZ,nG,sG,apa,anq]
   refine R.Sm (bs:=[34]) rfl rfl (ah (by (simp only [go_sem]))) rfl nP Oo Oq (by simp) ?_
   apply aj; simp only [go_sem,↓reduceIte,fP,fQ,zN,ajj,ao5,apg,afY,anh,apt,apm,aqa,aph,apj,ap1,aq1,gY,lZ,nG,sG,apa,anq]
   refine R.dF (d:=S (str [34])) 1000 16 rfl rfl (by (simp only [go_sem])) rfl rfl rfl rfl F5 rfl Q8 (by simp) (congrArg (Option.map af0) Rh) rfl Q9 (by simp [lI]) (by decide) (by decide) ?_
   apply aj; simp only [go_sem,↓reduceIte,fP,fQ,Cb,adu,zN,ajj,ao5,apg,afY,anh,apt,apm,aqa,aph,apj,ap1,aq1,gY,lZ,nG,sG,apa,anq]
   refine R.Ny (b:=str [92,34]) rfl rfl rfl (ah (by (simp only [go_sem]))) rfl Oq nP Oo (by decide) ?_
   apply aj; simp only [go_sem,↓reduceIte,fP,fQ,adu,sS,sU,zN,ajj,ao5,apg,afY,anh,apt,apm,aqa,aph,apj,ap1,aq1,gY,lZ,nG,sG,apa,anq]
   refine R.fE 3 (by omega) (hm:=by decide) (l:=by (simp only [go_sem,ait]); all_goals (and_intros <;> rfl))
  ·apply aj; simp only [go_sem,↓reduceIte,ait,ajj,ao5,apg,afY,anh,apt,apm,aqa,aph,apj,ap1,aq1,gY,lZ,nG,sG,apa,anq]
   refine R.Dt (v:=.kT 347 (.aG 11 0)) rfl (ah (by (simp only [go_sem]))) (by simp) (fun a w E g=>?_) ?_
   ·have h11:=g.slots 11
    refine ⟨.iface 347 (a.tmps.getD 11 undef),?_,?_⟩
    ·unfold execOp
     simp [Act.eval,Instr.makeInterface,Vl,run_underlying Tryz.underlying347]
    ·exact ⟨_,rfl,h11⟩
   refine aQk ?_
   refine R.ret fun a' w' E g=>?_
   obtain ⟨u,hu,hu2⟩:∃ u,a'.tmps.getD 2 undef = .iface 347 u∧u = .pointer (some ⟨E.vb 11,0,none⟩):=g.slots 2
   subst hu2
   have hvar:(St.mk 132 [(12,.pd (I (-2))),(3,.pd (strs oV)),(11,.aG 11 0),(99,.pd (I (-2))),(100,.pd (B false)),(131,.kT 347 (.aG 11 0)),(2,.kT 347 (.aG 11 0))] [(11,jT 3)] [(94,⟨9,1,Ie (lI.take 3)⟩)] [] []).var 11=some (jT 3):=rfl
   have hat:=g.Yy (d:=.ak jy) hvar (by rw [fP,← jA]; exact aew _) (fun j hj=>Zz rfl j (by rw [← jA]; exact hj))
   have hlow:w.heap.size≤E.vb 11:=by
    obtain ⟨_,_,m,_⟩:=g.vars 11 _ hvar
    rcases m.1 with h | h
    ·exact h
    ·exact h.elim
   refine ⟨g.defers,.iface 347 (.pointer (some ⟨E.vb 11,0,none⟩)),?_,E.vb 11,rfl,hlow,?_,g.kept.y8⟩
   ·rw [iW (vs:=[.iface 347 (.pointer (some ⟨E.vb 11,0,none⟩))]) (by show (([ResultVar.tmp 2]:List ResultVar).mapM (pX a'.tmps)).run _ _=_; simp [pX,hu])]; rfl
   ·refine hat.keep (.same fun q o h=>?_)
    rcases h with h | ⟨t,cs,h,rfl⟩ | ⟨i,r,p',hr,hp',rfl⟩
    ·exact g.g1 _ _ h
    ·obtain ⟨_,_,m,_⟩:=g.vars t _ h
     rcases m.1 with h | h
     ·exact .inr h
     ·exact h.elim
    ·exact .inr (g.dD i r p' hr hp' rfl)
end Go.Proofs.Z
end
