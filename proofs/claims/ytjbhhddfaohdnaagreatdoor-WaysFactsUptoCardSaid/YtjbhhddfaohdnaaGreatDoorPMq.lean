/- A part of the proof. -/
import Derived.Sort.MapsRangeIn
import Derived.RangeFuncNested
import Derived.Test.YtjbhhddfaohdnaaGreatDoorPK6
set_option linter.all false
set_option linter.deprecated false
open Array renaming replicate_zero→aqX,getD→af6
open Go.ChangeMaps renaming setBlock→aqF
open Go.Proofs.Tryz renaming prog→aai
open Go.Result renaming andThen_ok→adR,andThen→ar2
open Go.World renaming alloc_heap_new→atF,grownBy_alloc→axQ,cell?→ank
open List renaming length_cons→afM,length_nil→agq,nil_append→agU,cons_append→agA
namespace Go.Proofs.Z
open Go Go.Proofs Go.RowKit Go.Shelf Go.Maps
open Go.au (lC DW)
attribute [local go_sem] Oper.semAt_some
structure xP (w:World) (b r:Nat) (es:Array MapEntry) (clock:Nat) (A:List MapEntry):Prop where
 it:∃ seen,w.heap[b]? = some (.mapIter (some r) clock seen clock)∧(es.toList.filter fun e=>!seen.contains e.born)=A
 mp:w.heap[r]? = some (.map es clock)
theorem xP.ne {w:World} {b r clock:Nat} {es:Array MapEntry} {A:List MapEntry} (h:xP w b r es clock A):b≠r:=by
 obtain ⟨seen,h1,_⟩:=h.it
 rintro rfl; rw [h.mp] at h1; cases h1
theorem xP.walks {w w':World} {b r clock:Nat} {es:Array MapEntry} {A:List MapEntry} (h:xP w b r es clock A) (k:KeepsWalks w w'):xP w' b r es clock A:=by
 obtain ⟨seen,h1,h2⟩:=h.it
 exact ⟨⟨seen,k.same b _ h1 rfl,h2⟩,k.same r _ h.mp rfl⟩
theorem XF {e:MapEntry}:∀ {L:List MapEntry},(L.map (·.born)).Nodup→e∈L→∃ A B,L=A++e::B∧(L.filter fun q=>q.born != e.born)=A++B:=by
 intro L hn hp
 obtain ⟨A,B,rfl⟩:=auf hp
 refine ⟨A,B,rfl,?_⟩
 simp only [aei,ads,ap9,apq] at hn
 obtain ⟨_,⟨hB,_⟩,hAB⟩:=hn
 rw [aqe,apW]
 have h1:(A.filter fun q=>q.born != e.born)=A:=aql.2 fun q hq=>by
  have:=hAB q.born (adE.2 ⟨q,hq,rfl⟩) e.born (by simp)
  simpa using this
 have h2:(B.filter fun q=>q.born != e.born)=B:=aql.2 fun q hq=>by
  simp only [bne_iff_ne,ne_eq]
  intro e'
  exact hB (adE.2 ⟨q,hq,e'⟩)
 rw [h1,h2]; simp
def Born (es:Array MapEntry) (clock:Nat):Prop:=(es.toList.map (·.born)).Nodup∧∀ e∈es.toList,e.born<clock
section
variable {F:Fence} {n:Nat} {P:Program} (w:World) {ops:Array Oper} {rest:List Oper} {o:Oper} {a:Act} {Q:Exit→Act→World→Prop}
theorem G9 (hg:o.guard=none) (m:Operand) (t:TypeId) (hop:o.op=Op.range t m) (k e:TypeId) (ht:P.underlying t=some (.map k e)) (r clock:Nat) (es:Array MapEntry) (hm:a.eval m = .map (some r)) (hb:w.heap[r]? = some (.map es clock))
  (hK:∀ w',xP w' w.heap.size r es clock es.toList→w.grownBy w' none→w'.heap.size=w.heap.size+1→wpListIn F n P ops Q rest (a.put o.dst (.pointer (some ⟨w.heap.size,0,none⟩))) w'):wpListIn F n P ops Q (o::rest) a w:=by
 refine wpListIn_plain hg fun K' hK'=>?_
 have hrun:(Instr.range t (.map (some r))).run P w = .ok (.pointer (some ⟨w.heap.size,0,none⟩)) (w.alloc (.mapIter (some r) clock #[] clock)):=by
  simp only [Instr.range,Sem.run_bind,run_underlying ht,adR,lC hb,Sem.run_pure,run_newObj]; rfl
 have hr:r<w.heap.size:=(ad6.1 hb).1
 unfold Oper.wpIn
 refine ⟨?_,?_⟩
 ·simp [Oper.about,hop]
 ·rw [Oper.semAt_plain F _ _ (by rw [hop]; intro c hc'; cases hc')]
  simp [execOp,hop,hm,hrun,ar2]
  refine hK' _ _ (hK _ ⟨⟨#[],atF w _,by simp⟩,?_⟩ (axQ w _ none) (by simp))
  exact (Below.heap_alloc _ _ r hr).trans hb
theorem Iz (hg:o.guard=none) (it:Operand) (hop:o.op=Op.next it false) (b r clock:Nat) (es:Array MapEntry) (A:List MapEntry) (LP:Born es clock) (hit:a.eval it = .pointer (some ⟨b,0,none⟩)) (h:xP w b r es clock A)
  (hDone:A=[]→wpListIn F n P ops Q rest (a.put o.dst (.tuple #[.bool false])) w)
  (hMore:∀ (A1:List MapEntry) (e:MapEntry) (A2:List MapEntry) (w':World),A=A1++e::A2→e∈es.toList→xP w' b r es clock (A1++A2)→w.grownBy w' (some b)→w'.heap.size=w.heap.size→(Instr.entry (.pointer (some ⟨b,0,none⟩))).run P w' = .ok (.tuple #[e.key,e.val]) w' →
   wpListIn F n P ops Q rest (a.put o.dst (.tuple #[.bool true,e.key,e.val])) w'):wpListIn F n P ops Q (o::rest) a w:=by
 have hne:=h.ne
 obtain ⟨⟨seen,h1,h2⟩,h3⟩:=h
 refine wpListIn_plain hg fun K' hK'=>?_
 unfold Oper.wpIn
 refine ⟨by simp [Oper.about,hop],?_⟩
 rw [Oper.semAt_plain F _ _ (by rw [hop]; intro c hc'; cases hc')]
 have hl:(leftOf es seen).toList=A:=by
  unfold leftOf; rw [avg]; exact h2
 rcases run_next_at (P:=P) w o.type b r clock clock seen es clock h1 h3 LP.2 (aew _) with ⟨h0,hrun⟩ | ⟨e,he,w1,hal,hrun⟩
 ·simp [execOp,hop,hit,hrun,ar2]
  refine hK' _ _ (hDone ?_)
  rw [← hl,au6]; simpa using h0
 ·rw [hl] at he
  have hes:e∈es.toList:=by rw [← h2] at he; exact (ana.1 he).1
  have hnA:(A.map (·.born)).Nodup:=by rw [← h2]; exact LP.1.sublist ((avh).map _)
  obtain ⟨A1,A2,hA,hf⟩:=XF hnA he
  have hw1:w1.heap=w.heap:=by rcases hal with rfl | rfl <;> rfl
  have hb1:b<w.heap.size:=(ad6.1 h1).1
  simp [execOp,hop,hit,hrun,ar2]
  have hself:(aqF w1 b (.mapIter (some r) clock (seen.push e.born) clock)).heap[b]? = some (.mapIter (some r) clock (seen.push e.born) clock):=by
   simp [aqF,hw1,hb1]
  have hoth:∀ q,q≠b→(aqF w1 b (.mapIter (some r) clock (seen.push e.born) clock)).heap[q]? = w.heap[q]?:=by
   intro q hq
   simp [aqF,hw1,avo,aqm hq]
  have hmp:(aqF w1 b (.mapIter (some r) clock (seen.push e.born) clock)).heap[r]? = some (.map es clock):=(hoth r hne.symm).trans h3
  refine hK' _ _ (hMore A1 e A2 _ hA hes ⟨⟨seen.push e.born,hself,?_⟩,hmp⟩ ?_ ?_ ?_)
  ·rw [← hf,← h2,List.filter_filter]
   apply avP
   intro q _
   simp [Array.contains_push,Bool.not_or,Bool.and_comm,bne]
   cases h:decide (q.born=e.born) <;> simp_all
  ·refine ⟨?_,?_,?_,by simp [aqF,hw1],fun q hq hqb=>hoth q (fun e=>hqb (by rw [e]))⟩ <;> rcases hal with rfl | rfl <;> rfl
  ·simp [aqF,hw1]
  ·have hf:es.find? (fun x=>x.born == e.born)=some e:=by
    rw [← Array.find?_toList]; exact find_born e es.toList LP.1 hes
   simp only [Instr.entry,Sem.run_bind,DW hself (by intros; simp),adR,lC hmp,Array.back?_push,atg,aj9,ajs,hf,Sem.run_pure]
end
abbrev PV:={p:Value × Value // p.1.oneCell'=true∧p.2.oneCell'=true}
abbrev rM (p:PV):Value:=.agg #[p.1.1,p.1.2]
def xP.left (es:Array MapEntry) (b:Nat) (w:World):Nat:=match w.heap[b]? with
 | some (.mapIter _ _ seen _)=>(es.toList.filter fun e=>!seen.contains e.born).length
 | _=>0
theorem xP.left_eq {w:World} {b r clock:Nat} {es:Array MapEntry} {A:List MapEntry} (h:xP w b r es clock A):xP.left es b w=A.length:=by
 obtain ⟨⟨seen,h1,h2⟩,_⟩:=h
 unfold xP.left; rw [h1,← h2]
theorem xP.walk {w:World} {b r clock:Nat} {es:Array MapEntry} {A:List MapEntry} (h:xP w b r es clock A):∃ o:Obj,w.heap[b]? = some o∧o.isWalk=true:=by
 obtain ⟨⟨seen,h1,_⟩,_⟩:=h
 exact ⟨_,h1,rfl⟩
theorem aac (P:Program) (w:World) (x y a b:Value) (t:TypeId) (hx:x.oneCell'=true) (hy:y.oneCell'=true):
  ((store ⟨w.heap.size,0,none⟩ x).run P (w.alloc (.cells #[a,b] t))).andThen (fun _ w'=>(store ⟨w.heap.size,1,none⟩ y).run P w') = .ok () (w.alloc (.cells #[x,y] t)):=by
 have h:=run_storeCells_at P w.heap.size 0 t [x,y] 0 #[a,b] (w.alloc (.cells #[a,b] t)) (atF w _) (by simp) (by intro v hv; simp at hv; rcases hv with rfl | rfl <;> assumption)
 simp only [storeCells,Sem.run_bind,ao8,Nat.add_zero] at h
 have he:(w.alloc (.cells #[a,b] t)).setRow w.heap.size #[x,y]=w.alloc (.cells #[x,y] t):=by
  simp only [World.setRow,World.alloc]
  congr 1
  apply ar8
  intro i
  rw [ap4]
  by_cases h:w.heap.size=i
  ·subst h; simp
  ·have h':¬ i=w.heap.size:=fun e=>h e.symm
   simp [h,h',Array.getElem?_push]
 simp only [afM,agq,Nat.reduceAdd,List.take_zero,agU,agm (show #[a,b].toList.length≤2 by simp),ao3] at h
 rw [he] at h
 rw [show (⟨w.heap.size,0,none⟩:Addr).add 0=⟨w.heap.size,0,none⟩ from rfl,show (⟨w.heap.size,0,none⟩:Addr).add 1=⟨w.heap.size,1,none⟩ from rfl] at h
 refine Eq.trans ?_ h
 cases (store ⟨w.heap.size,0,none⟩ x).run P (w.alloc (.cells #[a,b] t)) with
 | ok a w'=>simp only [ar2]; cases (store ⟨w.heap.size,1,none⟩ y).run P w' <;> rfl
 | _=>rfl
theorem aad (W:World) (x y:Value) (t:TypeId):∀ j u,[x,y][j]? = some u→(W.alloc (.cells #[x,y] t)).cell? ((⟨W.heap.size,0,none⟩:Addr).add j)=some u:=by
 intro j u hu
 have hg:=atF W (.cells #[x,y] t)
 rcases j with _ | _ | j
 ·cases hu
  rw [show (⟨W.heap.size,0,none⟩:Addr).add 0=⟨W.heap.size,0,none⟩ from rfl]
  simp only [ank,hg]; rfl
 ·cases hu
  rw [show (⟨W.heap.size,0,none⟩:Addr).add (0+1)=⟨W.heap.size,1,none⟩ from rfl]
  simp only [ank,hg]; rfl
 ·cases hu
def XG:Value→Option PV
 | .agg a=>if h:(a.getD 0 undef).oneCell'=true∧(a.getD 1 undef).oneCell'=true then some ⟨(a.getD 0 undef,a.getD 1 undef),h⟩ else none
 | _=>none
theorem acR (p:PV):XG (rM p)=some p:=by
 obtain ⟨⟨x,y⟩,h1,h2⟩:=p
 dsimp only at h1 h2
 have h3:((#[x,y]:Array Value).getD 0 undef).oneCell'=true∧((#[x,y]:Array Value).getD 1 undef).oneCell'=true:=⟨h1,h2⟩
 simp only [rM,XG,arQ h3]
 rfl
theorem acS {l m:List PV} (h:(l.map rM).Perm (m.map rM)):l.Perm m:=by
 have h1:=h.filterMap XG
 have e:∀ l:List PV,(l.map rM).filterMap XG=l:=fun l=>by
  induction l with
  | nil=>rfl
  | cons a l ih=>simp [acR,ih]
 rwa [e,e] at h1
set_option maxRecDepth 100000 in
set_option maxHeartbeats 2000000 in
theorem UN (F:Fence) (n:Nat) (h87:F.fn 87) (hro:F.round=none) (hn:1≤n) (l Bs Os r clock:Nat) (es:Array MapEntry) (LP:Born es clock) (ps:List PV) (hvs:es.toList.map (·.val)=ps.map rM) (J Jx:List PV→World→Prop)
  (hY:∀ pre x W,J pre W→pre.length<es.size→YieldAt F (n - 1) aai l #[rM x] W fun e W'=>
   (e = .returned (.bool true)∧J (pre++[x]) W'∧KeepsWalks W W')∨(e = .returned (.bool false)∧Jx (pre++[x]) W'))
  (W:World) (hJ:AbidesFrom W.heap.size J) (hBs:W.cell? ⟨Bs,Os,none⟩=some (.map (some r))) (hr:W.heap[r]? = some (.map es clock)) (h0:J [] W):
  CallsIn F n aai 87 #[.func (.yield l) #[] #[],.pointer (some ⟨Bs,Os,none⟩)] W fun e W'=>(∃ v,e = .returned v) ∧
   ((∃ ys,ys.Perm ps∧J ys W')∨(∃ pre,Jx pre W')):=by
 refine callsIn_of_wp Tryz.func87 rfl h87 ?_ hro
 simp only [Tryz.ntmps87,ane,afM,agq,Nat.reduceAdd,Nat.reduceSub,aqW,aqX,ark,aq3,agU,agA]
 gi_wp2_with (first
  | (gi_at_range; refine G9 _ rfl _ _ rfl _ _ Tryz.underlying95 r clock es rfl hr ?_; intro w0 hit0 hg0 hs0)
  | gi_in)
 go_frame
 gi_loopw [] (fun wr=>∃ (A:List MapEntry) (pre:List PV),xP wr W.heap.size r es clock A∧(pre.map rM++A.map (·.val)).Perm (ps.map rM)∧J pre wr)
  (fun wr=>xP.left es W.heap.size wr)
 case atStart=>
  exact ⟨_,[],hit0,by rw [hvs]; simp,hJ [] W w0 none h0 hg0 (fun r e=>by cases e)⟩
 case round=>
  obtain ⟨A,pre,hit,hpm,hJs⟩:=hrel
  gi_wp2_with (first
   | (gi_at_next; refine Iz _ rfl _ rfl W.heap.size r clock es A LP rfl hit ?_ ?_)
   | gi_in)
  ·intro hA
   subst hA
   gi_wp2
   go_end0
   refine ⟨⟨_,rfl⟩,.inl ⟨pre,?_,hJs⟩⟩
   have h1:(pre.map rM).Perm (ps.map rM):=by simpa using hpm
   exact acS h1
  ·intro A1 e A2 w2 hA he hit2 hg2 hs2 hen
   have hev:e.val∈ps.map rM:=by rw [← hvs]; exact adE.2 ⟨e,by simpa using he,rfl⟩
   obtain ⟨⟨⟨x1,x2⟩,o1,o2⟩,hx,hxe⟩:=adE.1 hev
   have hlen:pre.length<es.size:=by
    have h1:=hpm.length_eq
    have h2:=congrArg List.length hvs
    simp [hA] at h1 h2
    omega
   have hJ2:J pre w2:=hJ pre wr w2 (some W.heap.size) hJs hg2 (fun r e=>by cases e; exact ⟨aew _,hit.walk⟩)
   have hkv:∃ ek ev,e.key=ek∧e.val=ev:=⟨_,_,rfl,rfl⟩
   obtain ⟨ek,ev,hek,hev'⟩:=hkv
   rw [hek,hev'] at hen ⊢
   rw [hev'] at hxe
   subst hxe
   clear hev
   dsimp only [rM] at hen ⊢
   clear hs2
   dsimp only at o1 o2
   have hfr:=aac aai w2 x1 x2 (.slice none 0 0) (.slice none 0 0) 39 o1 o2
   have hJ3:J pre (w2.alloc (.cells #[x1,x2] 39)):=hJ pre w2 _ none hJ2 (axQ w2 _ none) (fun r e=>by cases e)
   have hit3:=hit2.walks (w':=w2.alloc (.cells #[x1,x2] 39)) (KeepsWalks.alloc w2 _)
   obtain ⟨fn,tmps,assign,body,hy,hR⟩:=hY pre ⟨(x1,x2),o1,o2⟩ _ hJ3 hlen
   dsimp only [rM] at hy
   gi_wp2
   refine hR.mono ?_
   rintro e' W3 (⟨rfl,hJ4,hk4⟩ | ⟨rfl,aoj⟩)
   ·gi_wp2
    have ai4:=hit3.walks hk4
    go_roundw
    case rel=>
     refine ⟨_,pre++[⟨(x1,x2),o1,o2⟩],ai4,?_,hJ4⟩
     refine List.Perm.trans ?_ hpm
     rw [hA]
     simp only [aei,ads,adG,ai2,List.singleton_append,hev']
     exact arF _ awj.symm
    case measure=>
     rw [ai4.left_eq,hit.left_eq,hA]; simp
   ·gi_wp2
    refine bodyPost_ret (results_none rfl _ _ _) rfl ?_
    exact ⟨⟨_,rfl⟩,.inr ⟨_,aoj⟩⟩
theorem PW (F:Fence) (n:Nat) (h87:F.fn 87) (hro:F.round=none) (hn:1≤n) (Bs Os r clock:Nat) (es:Array MapEntry) (LP:Born es clock) (ps:List PV) (hvs:es.toList.map (·.val)=ps.map rM)
  (w:World) (hBs:Bs<w.heap.size) (hc:w.cell? ⟨Bs,Os,none⟩=some (.map (some r))) (hr:w.heap[r]? = some (.map es clock)):
  SeqStopsK F n aai 87 #[.pointer (some ⟨Bs,Os,none⟩)] (fun x:PV=>#[rM x]) KeepsWalks (fun ys=>ys.Perm ps) (fun _=>True) es.size w:=fun l J Jx W hW hJ _ hY h0=>by
 have hrl:r<w.heap.size:=(ad6.1 hr).1
 refine (UN F n h87 hro hn l Bs Os r clock es LP ps hvs J Jx hY W hJ ((hW.cell (p:=⟨Bs,Os,none⟩) hBs).trans hc) ((hW.block r hrl).trans hr) h0).mono ?_
 rintro e W' ⟨he,⟨ys,hp,hj⟩ | ⟨pre,hj⟩⟩
 ·exact ⟨he,.inl ⟨ys,hp,hj⟩⟩
 ·exact ⟨he,.inr ⟨pre,trivial,hj⟩⟩
abbrev Bq (ps:List PV):List Value:=ps.flatMap fun p=>[p.1.1,p.1.2]
theorem ai5:(aai.info? 39).map (fun i=>(i.zero,i.size,i.bytes))=some (some (.agg #[.slice none 0 0,.slice none 0 0]),2,48):=by kernel_rfl
set_option maxRecDepth 100000 in
set_option maxHeartbeats 2000000 in
theorem PX (F:Fence) (n:Nat) (h3:F.fn 148) (h5:F.fn 87) (hro:F.round=none) (hn:3≤n) (Bs Os r clock:Nat) (es:Array MapEntry) (LP:Born es clock) (ps:List PV) (hvs:es.toList.map (·.val)=ps.map rM)
  (hreach:ps.length * 48≤140737488351232) (w:World) (hBs:Bs<w.heap.size) (hc:w.cell? ⟨Bs,Os,none⟩=some (.map (some r))) (hr:w.heap[r]? = some (.map es clock)):
  CallsIn F n aai 148 #[.slice none 0 0,.func (.func 87) #[] #[.pointer (some ⟨Bs,Os,none⟩)]] w fun e W'=>∃ v ys,e = .returned v∧ys.Perm ps∧W'.ownsRow w.heap.size 39 2 v ps.length (Bq ys)∧Below w.heap.size w W':=by
 have h1:1≤n:=by omega
 have hlen:ps.length≤maxLen:=by unfold maxLen; omega
 have hsz:es.size=ps.length:=by have:=congrArg List.length hvs; simpa using this
 have hrl:r<w.heap.size:=(ad6.1 hr).1
 obtain ⟨i0,hi,hz0,hz1,hz2⟩:=info_parts ai5
 refine callsIn_of_wp_marks Tryz.func148 rfl h3 ?_ hro
 simp only [Tryz.ntmps148,ane,afM,agq,Nat.reduceAdd,Nat.reduceSub,aqW,aqX,ark,aq3,agU,agA]
 gi_wp2
 have bO:=Boxed.new w 33 (.slice none 0 0)
 have hB0:Below w.heap.size w (w.alloc (.cells #[.slice none 0 0] 33)):=(Below.refl _ w).alloc (aew _) _
 refine wpIn_rangeFunc_ownH hro h1 (gf:=87) (lb:=#[.pointer (some ⟨Bs,Os,none⟩)]) rfl h5 (enters_of Tryz.func87 (by kernel_rfl) rfl)
  (PW F (n - 1) h5 hro (by omega) Bs Os r clock es LP ps hvs _ (by simp; omega) ((hB0.cell (p:=⟨Bs,Os,none⟩) hBs).trans hc) ((hB0.block r hrl).trans hr)) walksK_t (fun W l o o' hl=>walksK_b (w:=w) W l o o' (by simp at hl; omega)) (Below.refl _ _) (fun _=>rfl)
  (fun pre W=>(∃ v,Boxed W w.heap.size 33 v∧W.ownsRow w.heap.size 39 2 v pre.length (Bq pre)∧True)∧Below w.heap.size w W)
  (fun _ _ _=>False)
  (OwnFrom.and (Own.from (holdsRow_own w.heap.size w.heap.size 33 39 2 (fun pre:List PV=>pre.length) (fun pre=>Bq pre) (fun _ _=>True)) _) (ownFrom_below (aew _) (by simp)))
  (fun _ _ _ _ _ hs _ _=>hs)
  ⟨⟨_,bO,World.ownsRow_nil _ _ _ _,trivial⟩,hB0⟩
  (fun x a' W=>∃ b,w.heap.size<b∧W.heap[b]? = some (.cells #[x.1.1,x.1.2] 39)∧a'={ tmps:=#[.slice none 0 0,.func (.func 87) #[] #[.pointer (some ⟨Bs,Os,none⟩)],.pointer (some ⟨w.heap.size,0,none⟩),undef,.slice none 0 0,.pointer (some ⟨b,0,none⟩),.func (.func 87) #[] #[.pointer (some ⟨Bs,Os,none⟩)],rM x,undef,undef,undef,undef,undef],defers:=[] }) ?hax ?assign ?body ?done ?stop
 case hax=>
  rintro x a' _ X Y row ⟨b,hb,hcb,ha⟩ hg hrw
  refine ⟨b,hb,(hg.block b (ad6.1 hcb).1 fun e=>?_).trans hcb,ha⟩
  obtain ⟨_,o,ho,hcl⟩:=hrw b e.symm
  rw [hcb] at ho; cases ho; cases hcl
 case assign=>
  intro l pre x W K hI hK
  obtain ⟨⟨x1,x2⟩,o1,o2⟩:=x
  dsimp only at o1 o2
  have hfr:=aac aai W x1 x2 (.slice none 0 0) (.slice none 0 0) 39 o1 o2
  dsimp only [rM] at hK ⊢
  gi_wp2
  obtain ⟨⟨v,hv,hrow,-⟩,hB⟩:=hI
  have hlt:w.heap.size<W.heap.size:=(ad6.1 (show W.heap[w.heap.size]? = _ from hv)).1
  exact hK _ _ ⟨by simp,fun k o _ h0 _=>(Below.heap_alloc _ _ k (ad6.1 h0).1).trans h0⟩ (KeepsWalks.alloc W _) ⟨⟨v,hv.alloc _,hrow.alloc _,trivial⟩,hB.alloc hB.size _⟩ ⟨W.heap.size,hlt,atF W _,rfl⟩
 case body=>
  rintro l pre ⟨⟨x1,x2⟩,o1,o2⟩ a' W hl hlr ⟨⟨v,hv,hrow,-⟩,hB⟩ ⟨b,hb,hcb,rfl⟩ hlt
  have hc:=hv.cell
  dsimp only at o1 o2 hcb
  dsimp only [rM]
  have hl1:W.cell? ⟨b,0,none⟩=some x1:=by simp [ank,hcb]
  have hl2:W.cell? ⟨b,1,none⟩=some x2:=by simp [ank,hcb]
  have hnew:=aad W x1 x2 39
  gi_wp2_with (gi_at_builtin; refine wpListIn_append_own _ rfl _ _ 33 rfl w.heap.size 39 i0 (.agg #[.slice none 0 0,.slice none 0 0]) 2 48 Tryz.underlying33 hi hz0 hz1 hz2 rfl (by decide) _ _ _ rfl (hrow.alloc _) ⟨W.heap.size,0,none⟩ 1 1 [x1,x2] rfl rfl hnew (by intro u hu; simp at hu; rcases hu with rfl | rfl <;> assumption) (by omega) (by omega) (by have:=hB.size; simp; omega) ?_; intro v' w1 hown' hgrow _; obtain ⟨g',cap',rfl⟩:=ownsRow_succ hown'; obtain ⟨hv1,hv2,hr2,hk2,hb2⟩:=hv.appended (by decide) hrow hB.size (aew _) hown' hgrow; have hc1:=hv1.cell; have hf1:=hv1.frozen)
  exact ⟨hk2.from _,hk2.walks,⟨_,hv2,by simpa using hr2,trivial⟩,hB.trans hb2⟩
 case done=>
  rintro D ys W hD hperm ⟨⟨v,hv,hrow,-⟩,hB⟩ hK
  have hc:=hv.cell
  gi_wp2
  refine ⟨by simp,.inl ⟨_,_,rfl,run_takeDeferred hK,?_⟩⟩
  have hyl:=hperm.length_eq
  rw [hyl] at hrow
  exact ⟨_,results_tmp rfl _ _ _,v,ys,rfl,hperm,ownsRow_putObj hrow _ hK rfl,hB.trans (belowK_b (w:=w) (aew _) W D _ _ (by simp at hD; omega) hK rfl rfl)⟩
 case stop=>
  rintro D c pre W _ _ h _
  exact h.elim
end Go.Proofs.Z
namespace Go.Proofs.Z
open Go Go.Proofs Go.RowKit Go.au
theorem UO {α β:Type} (f:α→β) {l1 l2:List β} (h:l1.Perm l2):∀ qs:List α,l2=qs.map f→∃ qs':List α,qs'.Perm qs∧l1=qs'.map f:=by
 induction h with
 | nil=>intro qs e; exact ⟨qs,.refl _,e⟩
 | cons x _ ih=>
  intro qs e
  cases qs with
  | nil=>cases e
  | cons q qs=>
   simp only [ads,aau] at e
   obtain ⟨qs',hp,rfl⟩:=ih qs e.2
   exact ⟨q::qs',hp.cons q,by simp [e.1]⟩
 | swap x y l=>
  intro qs e
  match qs,e with
  | a::b::c,e=>
   simp only [ads,aau] at e
   exact ⟨b::a::c,.swap a b c,by simp [e.1,e.2.1,e.2.2]⟩
 | trans _ _ ih1 ih2=>
  intro qs e
  obtain ⟨q1,hp1,e1⟩:=ih2 qs e
  obtain ⟨q2,hp2,e2⟩:=ih1 q1 e1
  exact ⟨q2,hp2.trans hp1,e2⟩
theorem aae (ps:List PV) (k:Nat) (hk:k<ps.length):(Bq ps)[k * 2]? = some ps[k].1.1∧(Bq ps)[k * 2+1]? = some ps[k].1.2:=by
 induction ps generalizing k with
 | nil=>simp at hk
 | cons p ps ih=>
  cases k with
  | zero=>simp [Bq]
  | succ k=>
   have:=ih k (by simpa using hk)
   simp only [Bq,aqo,List.getElem_cons_succ] at this ⊢
   rw [show (k+1) * 2=(k * 2)+2 by omega,show (k * 2)+2+1=(k * 2+1)+2 by omega]
   simpa using this
theorem afi {es:Array MapEntry} {clock:Nat} (h:∀ i j,i<j→j<es.size→(es.getD i default).born<(es.getD j default).born) (hc:∀ i,i<es.size→(es.getD i default).born<clock):Born es clock:=by
 refine ⟨D5 h,fun e he=>?_⟩
 obtain ⟨i,hi,rfl⟩:=af2 he
 have:=hc i (by simpa using hi)
 simpa [adr,show i<es.size by simpa using hi] using this
theorem ai6:aH aai 148:=fun _ _=>by kernel_rfl
theorem PY (r:Nat) (m:AM) (hl:m.length * 48≤140737488351232):eH aai 148 [.pd (.raw (.slice none 0 0)),.pd (.clo 87 [mref r])] [(r,aI m)] [] (fun res M'=>∃ l:List Ans,l.Perm (m.map (·.2))∧res = .own ⟨39,2,l.map ans⟩∧M'=[]):=by
 refine ⟨ai6,fun w G LQ hG hs hv hM=>?_⟩
 have h0:aN w G (LQ.getD 0 undef) (.raw (.slice none 0 0)):=hv 0 (by simp)
 have h1:Rd w G (LQ.getD 1 undef) (.clo 87 [mref r]):=hv 1 (by simp)
 have e0:=aN.aK h0
 have aok:LQ = #[LQ.getD 0 undef,LQ.getD 1 undef]:=by
  apply ar5
  ·simpa using hs
  ·intro i hi1 hi2
   have:LQ.size=2:=by simpa using hs
   match i,hi1 with
   | 0,_=>simp [af6,this]
   | 1,_=>simp [af6,this]
 rw [aok,e0]
 generalize LQ.getD 1 undef=v1 at h1 ⊢
 obtain ⟨hrG,es,clock,hb,hsz,hread,hborn,nX,hnd⟩:=hM r (aI m) (by simp [lk])
 have hml:(aI m).length=m.length:=by simp [aI]
 have hpv:∀ i,∃ p:PV,i<m.length→(es.getD i default).val=rM p∧Rd w G p.1.1 (vals (m.getD i (.empty,⟨[],[]⟩)).2.row)∧Rd w G p.1.2 (ways (m.getD i (.empty,⟨[],[]⟩)).2.ways):=by
  intro i
  by_cases hi:i<m.length
  ·obtain ⟨_,hr⟩:=hread i (by omega)
   have e1:((aI m).getD i (undef,.ak [])).2=ans (m.getD i (.empty,⟨[],[]⟩)).2:=by simp [aI,hi]
   rw [e1] at hr
   obtain ⟨cs,hv,hcs,hrd⟩:=hr
   have r0:=hrd 0 (by simp)
   have r1:=hrd 1 (by simp)
   simp only [apu,arX] at r0 r1
   refine ⟨⟨(cs.getD 0 undef,cs.getD 1 undef),r0.oneCell,r1.oneCell⟩,fun _=>⟨?_,r0,r1⟩⟩
   rw [hv]
   have:cs.size=2:=by simpa using hcs
   congr 1
   apply ar5
   ·simp [this]
   ·intro i hi1 hi2
    match i,hi1 with
    | 0,_=>simp [af6,this]
    | 1,_=>simp [af6,this]
  ·exact ⟨⟨(.slice none 0 0,.slice none 0 0),rfl,rfl⟩,fun h=>(hi h).elim⟩
 obtain ⟨f,hf⟩:=Classical.skolem.1 hpv
 have hvs:es.toList.map (·.val)=((List.range m.length).map f).map rM:=by
  apply am8
  ·simp [hsz]
  ·intro i h1 h2
   have hi:i<m.length:=by simpa using h2
   have:=(hf i hi).1
   have hi2:i<es.size:=by omega
   simpa [adr,hi2] using this
 cases h1 with
 | clo _ _ bs vs hbl iU hcell hrd=>
  obtain ⟨p,rfl⟩:=agj.1 hbl
  obtain ⟨b,off⟩:=p
  have hc:=hcell 0 0 (by simp) (by simp [PD.width])
  have hp:=iU 0 0 (by simp) (by simp [PD.width])
  have hr:=hrd 0 0 (by simp) (by simp [PD.width])
  simp only [apu,Nat.add_zero] at hc hp hr
  have hr':vs 0 0 = .map (some r):=aN.aK (Rd.CJ hr)
  rw [hr'] at hc
  refine (callsIn_wide.1 (PX Fence.wide 5 trivial trivial rfl (by omega) b off r clock es (afi hborn nX) ((List.range m.length).map f) hvs (by simpa using hl) w (hG.lt _ _ hp) hc hb)).mono ?_
  rintro e w' ⟨v,ys,rfl,hperm,hown,hbel⟩
  obtain ⟨qs,hq,rfl⟩:=UO f hperm _ rfl
  have hk:Keeps w G w' G:=Keeps.tN hG.lt hbel fun _ _ h=>h
  refine ⟨.own ⟨39,2,(qs.map fun i=>(m.getD i (.empty,⟨[],[]⟩)).2).map ans⟩,[],G,⟨qs.map fun i=>(m.getD i (.empty,⟨[],[]⟩)).2,?_,rfl,rfl⟩,fun _ _ h=>h,fun _ _ h=>.inl h,fun b o h=>ajq (hG.lt b o h) hbel.size,⟨hbel.os,hbel.tape,hbel.output,hbel.size,fun k hk _=>hbel.block k hk,fun h=>by cases h⟩,⟨v,rfl,?_⟩,fun r m h=>by simp [lk] at h,fun r m h=>by simp [lk] at h⟩
  ·refine (hq.map _).trans (.of_eq ?_)
   apply am8
   ·simp
   ·intro i h1 h2
    have hi:i<m.length:=by simpa using h2
    simp [hi]
  have hqm:∀ k,(hk:k<qs.length)→qs[k]<m.length:=fun k hk=>by simpa using hq.mem_iff.1 (aaO hk)
  have KA:qs.length=m.length:=by simpa using hq.length_eq
  simp only [adu,arU] at hown
  rcases hown with ⟨hxl,⟨rfl,hn⟩ | ⟨g,cap,cur,rfl,hb0,hgb,h2,h3,h4,h5⟩⟩
  ·exact .inl ⟨rfl,by have:qs=[]:=ai9.1 (KA.trans hn)
                      simp [this]⟩
  ·refine .inr ⟨g,cap,cur,by simp [KA],hb0,fun o ho=>by have:=hG.lt _ _ ho; omega,hgb,h4,by simpa [KA] using h2,h3,fun k hk=>?_,fun k j hk' hj=>?_⟩
   ·simp only [adu] at hk
    simp [hk,PD.width]
   ·simp only [adu] at hk'
    have e1:((qs.map fun i=>(m.getD i (.empty,⟨[],[]⟩)).2).map ans).getD k (.ak [])=ans (m.getD qs[k] (.empty,⟨[],[]⟩)).2:=by simp [hk']
    obtain ⟨_,f1,f2⟩:=hf qs[k] (hqm k hk')
    obtain ⟨g1,g2⟩:=aae (qs.map f) k (by simpa using hk')
    have hcur:∀ j,j<2→cur[k * 2+j]? = (Bq (qs.map f))[k * 2+j]?:=fun j hj=>by
     rw [← h5,ap3,adA (by omega)]; simp
    rw [e1]
    have hj2:j<2:=hj
    rcases j with _ | _ | j
    ·have:cur.getD (k * 2+0) undef=(f qs[k]).1.1:=by
      rw [adr,hcur 0 (by omega)]; simpa using congrArg (Option.getD · undef) g1
     rw [this]; exact f1.keep hk
    ·have:cur.getD (k * 2+(0+1)) undef=(f qs[k]).1.2:=by
      rw [adr,hcur 1 (by omega)]; simpa using congrArg (Option.getD · undef) g2
     rw [this]; exact f2.keep hk
    ·omega
theorem alu:aH aai 85:=fun _ _=>by kernel_rfl
theorem alv:aH aai 41:=fun _ _=>by kernel_rfl
theorem UQ (r:Nat) (m:AM) (hl:m.length * 48≤140737488351232):eH aai 85 [.pd (.clo 87 [mref r])] [(r,aI m)] [] (fun res M'=>∃ l:List Ans,l.Perm (m.map (·.2))∧res = .own ⟨39,2,l.map ans⟩∧M'=[]):=by
 refine eH.mk Tryz.func85 rfl alu (by simp [Tryz.ntmps85]) fun w G=>?_
 refine aQk ?_
 refine R.eG (by rfl) 7 (by rfl) rfl rfl (ah (by (simp only [go_sem]))) (.cons (.pd _) (.cons (.pd _) .nil)) (PY r m hl) (fun r m h=>by simpa [St.map,lk] using h) (fun r h=>by simp at h) ?_
 rintro res M' ⟨l,hp,rfl,rfl⟩ _
 simp only [Behind]
 refine aQk ?_
 exact R.rX rfl rfl rfl ⟨l,hp,rfl,rfl⟩
theorem XH (r:Nat):aC aai 41 [.pd (mref r)] [.clo 87 [mref r]]:=by
 refine aC.mk Tryz.func41 rfl alv (by simp [Tryz.ntmps41]) fun w G=>?_
 refine aQk ?_
 refine R.dw 1 (mref r) rfl (fun _ h=>h) rfl ?_
 simp only [go_sem,St.dw,SV.dw]
 refine R.rC ?_
 rfl
end Go.Proofs.Z
