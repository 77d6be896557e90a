/- A part of the proof: Tx, Drw. -/
import Derived.Test.YtjbhhddfaohdnaaGreatDoorPU1
import Derived.Test.YtjbhhddfaohdnaaGreatDoorPBd
import Derived.Test.YtjbhhddfaohdnaaGreatDoorPRb
import Derived.Lib.ItoaLen
import Derived.Test.YtjbhhddfaohdnaaGreatDoorPEv
set_option linter.all false
set_option linter.deprecated false
section
namespace Go.Proofs.YtjbhhddfaohdnaaGreatDoor
open Go Go.Abs Go.Proofs
set_option maxRecDepth 10000
set_option maxHeartbeats 4000000
theorem ent200:Ent Tryz.prog 200:=fun _ _=>by kernel_rfl
theorem ent256:Ent Tryz.prog 256:=fun _ _=>by kernel_rfl
theorem ent257:Ent Tryz.prog 257:=fun _ _=>by kernel_rfl
def replB (c:UInt8):List UInt8:=if c=34 then [92,34] else if c=92 then [92,92] else if c=10 then [92,110] else [c]
def replL (l:List UInt8):List UInt8:=l.flatMap replB
def quoteB (s:ByteArray):ByteArray:=str (34::(replL (bytes s)++[34]))
def textV (v:V):ByteArray:=if !validV v then ByteArray.empty else if v.kind=1 then quoteB v.text else if v.kind=2 then str (Lib.itoa v.n) else if v.kind=3 then str (64::Lib.itoa v.n) else if v.kind=4 then str (Lib.formatBool (v.n == 1)) else str [110,117,108,108]
theorem tabIs {w:World} {G:Pub} (h:Tab w G):Lib.TabIs Tryz.prog w "internal/strconv.uint64pow10" .u64 Lib.pow10Tab:=by
 obtain ⟨_,e,d,hb⟩:=h
 unfold Lib.TabIs World.var?
 have hg:Tryz.prog.globalNamed "internal/strconv.uint64pow10" = some TB:=by kernel_rfl
 rw [hg]
 simp only [Option.bind_some,hb]
 simp [TA,TV,Lib.pow10Tab]
theorem itoa_ok (n:Int) (h0:-9223372036854775808≤n) (h1:n≤9223372036854775807):FnW Tryz.prog 256 [.pd (I n)] [S (str (Lib.itoa n))]:=by
 refine ⟨ent256,fun w G vals hG hs hv=>?_⟩
 have e0:vals.getD 0 undef = .int .i64 n:=RdV.raw_eq (w:=w) (G:=G) (hv 0 (by simp))
 have hvals:vals = #[.int .i64 n]:=by
  apply Array.ext
  ·simpa using hs
  ·intro i hi1 hi2
   have hsz:vals.size=1:=by simpa using hs
   match i,hi1 with
   | 0,_=>simpa [Array.getD,hsz] using e0
 rw [hvals]
 refine (Tryz.strconv_Itoa n h0 h1 w (tabIs hG.tab)).mono ?_
 rintro e w' ⟨rfl,k,os,rfl⟩
 exact ⟨_,rfl,Rd.raw _ rfl,((⟨⟨rfl,rfl,rfl,Nat.le_refl _,fun _ _=>rfl⟩,Nat.le_add_right _ _⟩:Go.Abs.Below w.heap.size w (w.drewN k)).trans (below_grow (w.drewN k) os)).toBelow⟩
theorem fmtBool_ok (b:Bool):FnW Tryz.prog 257 [.pd (B b)] [S (str (Lib.formatBool b))]:=by
 refine ⟨ent257,fun w G vals hG hs hv=>?_⟩
 have e0:vals.getD 0 undef = .bool b:=RdV.raw_eq (w:=w) (G:=G) (hv 0 (by simp))
 have hvals:vals = #[.bool b]:=by
  apply Array.ext
  ·simpa using hs
  ·intro i hi1 hi2
   have hsz:vals.size=1:=by simpa using hs
   match i,hi1 with
   | 0,_=>simpa [Array.getD,hsz] using e0
 rw [hvals]
 refine (Tryz.strconv_FormatBool b w).mono ?_
 rintro e w' ⟨rfl,rfl⟩
 exact ⟨_,rfl,Rd.raw _ rfl,Go.RowKit.Below.refl _ _⟩
theorem str_app (a b:List UInt8):str a++str b=str (a++b):=by
 apply bytes_inj
 simp [bytes]
theorem valid_n {v:V} (h:validV v=true):-1000000000≤v.n∧v.n≤1000000000:=by
 unfold validV inR at h
 repeat' split at h
 all_goals (simp at h; try omega)
theorem textN_ok (v:V) (hk:v.kind≠1):FnW Tryz.prog 200 [.pd (val v)] [S (textV v)]:=by
 have hk1:(v.kind == 1)=false:=by simpa using hk
 refine FnW.mk Tryz.func200 rfl ent200 (by simp [Tryz.ntmps200]) fun w G=>?_
 (refine evC_ok (cs:=[(4,.of (valid_ok v))]) 80 _ _ ?_; simp only [go_sem,List.cons.injEq,SV.pd.injEq,hk1])
 refine ⟨fun h=>?_,fun h=>?_⟩
 ·have hv:textV v=ByteArray.empty:=by unfold textV; simp [h]
  rw [hv]
  (refine ev8 ?_; simp only [go_sem])
  refine R.retW (vc:=True) ?_ trivial
  rfl
 have hval:validV v=true:=by simpa using h
 (refine evC8 ?_; simp only [go_sem,List.cons.injEq,SV.pd.injEq,hk1])
 have hn:=valid_n hval
 by_cases h2:v.kind=2
 ·have e2:(v.kind == 2)=true:=by simp [h2]
  have hv:textV v=str (Lib.itoa v.n):=by unfold textV; simp [hval,h2]
  rw [hv]
  (refine evL8 ?_; simp only [go_sem,↓reduceIte,e2])
  refine R.callW (by rfl) (itoa_ok v.n (by omega) (by omega)) rfl rfl (.cons (.pd _) (.nil)) (by simp [plain,PD.plain]) (by simp only [go_sem]) ?_
  (refine ev8 ?_; simp only [go_sem])
  refine R.retW (vc:=True) ?_ trivial
  rfl
 have e2:(v.kind == 2)=false:=by simpa using h2
 by_cases h3:v.kind=3
 ·have e3:(v.kind == 3)=true:=by simp [h3]
  have hv:textV v=str (64::Lib.itoa v.n):=by unfold textV; simp [hval,h3]
  rw [hv]
  (refine evL8 ?_; simp only [go_sem,↓reduceIte,e2,e3])
  refine R.callW (by rfl) (itoa_ok v.n (by omega) (by omega)) rfl rfl (.cons (.pd _) (.nil)) (by simp [plain,PD.plain]) (by simp only [go_sem]) ?_
  have hil:=Lib.itoa_length_le v.n (by omega) (by omega)
  have hia:(⟨#[64]⟩:ByteArray)++str (Lib.itoa v.n)=str (64::Lib.itoa v.n):=str_app [64] _
  (refine ev8 ?_; simp only [go_sem,hia])
  refine ⟨?_,?_⟩
  ·have h5:(str (Lib.itoa v.n)).size=(Lib.itoa v.n).length:=rfl
   have h6:(⟨#[64]⟩:ByteArray).size=1:=rfl
   have h7:IntKind.i64.max=9223372036854775807:=rfl
   first | (rw [h5,h6,h7]; omega) | (rw [h7]; omega)
  refine R.retW (vc:=True) ?_ trivial
  rfl
 have e3:(v.kind == 3)=false:=by simpa using h3
 by_cases h4:v.kind=4
 ·have e4:(v.kind == 4)=true:=by simp [h4]
  have hv:textV v=str (Lib.formatBool (v.n == 1)):=by unfold textV; simp [hval,h4]
  rw [hv]
  (refine evL8 ?_; simp only [go_sem,↓reduceIte,e2,e3,e4])
  refine R.callW (by rfl) (fmtBool_ok (v.n == 1)) rfl rfl (.cons (.pd _) (.nil)) (by simp [plain,PD.plain]) (by simp only [go_sem]) ?_
  (refine ev8 ?_; simp only [go_sem])
  refine R.retW (vc:=True) ?_ trivial
  rfl
 have e4:(v.kind == 4)=false:=by simpa using h4
 have hv:textV v=str [110,117,108,108]:=by unfold textV; simp [hval,hk,h2,h3,h4]
 rw [hv]
 (refine evL8 ?_; simp only [go_sem,↓reduceIte,e2,e3,e4])
 refine R.retW (vc:=True) ?_ trivial
 rfl
end Go.Proofs.YtjbhhddfaohdnaaGreatDoor
end
section
namespace Go.Abs
def looksB2 (all:Array Oper) (n m:Nat) (o:Oper):Bool:=(o.looksAt all).all fun t=>(all.toList.zipIdx).all fun p=>decide (n≤p.2) || p.1.dst != some t || m.testBit p.2
def drawB2 (all:Array Oper) (n:Nat):Bool:=
 let ms:=masks all.toList []
 (all.toList.zipIdx).all (fun p=>edgesB p.2 p.1&&(if p.2<n then looksB2 all n (ms.getD p.2 0) p.1&&(all.toList.zipIdx).all (fun q=>!(decide (q.2<p.2)) || q.1.dst == none || q.1.dst != p.1.dst)
  else (List.range p.2).all fun j=>(ms.getD p.2 0).testBit j))&&decide (n≤all.size)
structure DrawOk2 (all:Array Oper) (n:Nat):Prop where
 le:n≤all.size
 edge:∀ i o,all[i]? = some o→∀ e∈o.after,Region.binds .any e=true→e.on<i
 look:∀ i o,i<n→all[i]? = some o→∀ t∈o.looksAt all,∀ j o',j<n→all[j]? = some o'→o'.dst=some t→((masks all.toList []).getD i 0).testBit j=true
 dist:∀ i j o o' t,i<n→j<i→all[i]? = some o→all[j]? = some o'→o.dst=some t→o'.dst=some t→False
 tail:∀ i o,n≤i→all[i]? = some o→∀ j,j<i→((masks all.toList []).getD i 0).testBit j=true
 good:GoodM all.toList (masks all.toList [])
 len:(masks all.toList []).length=all.size
theorem drawB_ok2 {all:Array Oper} {n:Nat} (h:drawB2 all n=true):DrawOk2 all n:=by
 unfold drawB2 at h
 simp only [Bool.and_eq_true,decide_eq_true_eq] at h
 obtain ⟨h1,h2⟩:=h
 have hp:∀ i o,all[i]? = some o→_:=fun i o ho=>(List.all_eq_true.1 h1) (o,i) (mem_zipIdx' ho)
 obtain ⟨hg,hl⟩:=masks_good all.toList all.toList [] (by simp) (by simp) (fun i o hi=>by simp at hi)
 refine ⟨h2,fun i o ho e he hb=>?_,fun i o hi ho t ht j o' hjn ho' hd=>?_,fun i j o o' t hi hj ho ho' hd hd'=>?_,fun i o hi ho j hj=>?_,hg,by simpa using hl⟩
 ·have:=hp i o ho
  simp only [Bool.and_eq_true] at this
  have h3:=(List.all_eq_true.1 this.1) e (by simpa using he)
  simpa [hb] using h3
 ·have:=hp i o ho
  simp only [Bool.and_eq_true,if_pos hi] at this
  have h3:=(List.all_eq_true.1 this.2.1) t ht
  have h4:=(List.all_eq_true.1 h3) (o',j) (mem_zipIdx' ho')
  simpa [hd,Nat.not_le.2 hjn] using h4
 ·have:=hp i o ho
  simp only [Bool.and_eq_true,if_pos hi] at this
  have h4:=(List.all_eq_true.1 this.2.2) (o',j) (mem_zipIdx' ho')
  simp [hd,hd',hj] at h4
 ·have:=hp i o ho
  simp only [Bool.and_eq_true,if_neg (Nat.not_lt.2 hi)] at this
  exact (List.all_eq_true.1 this.2) j (by simpa using hj)
section
variable {C:Cx} {s s':St} {a:Act} {w w':World} {E:Env} {P:Program} {all:Array Oper} {k:List KI} {o:Oper}
theorem anc_listed2 {n:Nat} (D:DrawOk2 all n) {L:Array Bool} (hc:∀ i o,L.getD i false=true→all[i]? = some o→∀ e∈o.after,Region.binds .any e=true→L.getD e.on false=true) (hs:L.size=all.size):
  ∀ i o,all[i]? = some o→(∀ e∈o.after,Region.binds .any e=true→L.getD e.on false=true)→∀ j,((masks all.toList []).getD i 0).testBit j=true→L.getD j false=true∧j<i:=by
 intro i
 induction i using Nat.strongRecOn with
 | _ i ih=>
  intro o ho he j hb
  have hi:i<all.size:=(Array.getElem?_eq_some_iff.1 ho).1
  obtain ⟨e,hem,hbd,h1⟩:=D.good i o (by rw [D.len]; exact hi) (by simpa using ho) j hb
  have hem':e∈o.after:=by simpa using hem
  have hlt:=D.edge i o ho e hem' hbd
  have hL:=he e hem' hbd
  rcases h1 with h1 | h1
  ·subst h1; exact ⟨hL,hlt⟩
  ·have h2:e.on<all.size:=by omega
   have h3:all[e.on]? = some all[e.on]:=by simp [h2]
   have:=ih e.on hlt all[e.on] h3 (hc e.on _ hL h3) j h1
   exact ⟨this.1,by omega⟩
theorem draw_tail2 {n:Nat} (D:DrawOk2 all n) {Q:Exit→Act→World→Prop}:∀ (l:List Oper) (m:Nat) (L:Array Bool) (fuel:Nat) (a:Act) (w:World),n≤m→m+l.length=all.size→(∀ j,l[j]? = all[m+j]?)→l.length≤fuel→L.size=all.size →
  (∀ i,i<all.size→L.getD i false=decide (i<m))→wpList C.P all Q l a w→wpAny C.P .any all Q fuel L a w
 | [],m,L,fuel,a,w,hn,hm,hl,hf,hs,hL,h=>by
  have hr:Region.ready .any all L=[]:=by
   apply List.eq_nil_iff_forall_not_mem.2
   intro i hi
   obtain ⟨h1,o,ho,_⟩:=mem_ready.1 hi
   have hlt:=(Array.getElem?_eq_some_iff.1 ho).1
   rw [getD_true_false (by omega),hL i hlt] at h1
   simp at h1 hm; omega
  cases fuel with
  | zero=>exact ⟨hr,h⟩
  | succ f=>exact ⟨fun _=>h,fun i hi=>by rw [hr] at hi; cases hi⟩
 | o::l,m,L,fuel,a,w,hn,hm,hl,hf,hs,hL,h=>by
  simp only [List.length_cons] at hm hf
  have ho:all[m]? = some o:=by have:=hl 0; simpa using this.symm
  have hmlt:m<all.size:=by omega
  have hready:m∈Region.ready .any all L:=mem_ready.2 ⟨by rw [getD_true_false (by omega),hL m hmlt]; simp,o,ho,fun e he hb=>by
   have:=D.edge m o ho e he hb
   rw [hL e.on (by omega)]; simpa using this⟩
  have honly:∀ i,i∈Region.ready .any all L→i=m:=by
   intro i hi
   obtain ⟨h1,o',ho',hall⟩:=mem_ready.1 hi
   have hlt:=(Array.getElem?_eq_some_iff.1 ho').1
   rw [getD_true_false (by omega),hL i hlt] at h1
   simp at h1
   rcases Nat.lt_or_ge m i with c | c
   ·have hbit:=D.tail i o' (by omega) ho' m c
    have hcl:∀ i o,L.getD i false=true→all[i]? = some o→∀ e∈o.after,Region.binds .any e=true→L.getD e.on false=true:=by
     intro i2 o2 h2 ho2 e he hb
     have h3:=(Array.getElem?_eq_some_iff.1 ho2).1
     rw [hL i2 h3] at h2
     have h4:=D.edge i2 o2 ho2 e he hb
     rw [hL e.on (by omega)]
     simp at h2 ⊢; omega
    have:=(anc_listed2 D hcl hs i o' ho' hall m hbit).1
    rw [hL m hmlt] at this
    simp at this
   ·omega
  cases fuel with
  | zero=>omega
  | succ f=>
   refine ⟨fun hnil=>(by rw [hnil] at hready; cases hready),fun i hi=>?_⟩
   obtain rfl:=honly i hi
   have hw:wpOp C.P all Q i (wpList C.P all Q l) a w:=by
    unfold wpOp
    simp only [ho]
    exact h
   refine wpOp_mono (fun a' w' h'=>?_) hw
   refine draw_tail2 D l (i+1) _ f a' w' (by omega) (by omega) (fun j=>?_) (by omega) (by simpa using hs) (fun i' hi'=>?_) h'
   ·have:=hl (j+1); simp only [List.getElem?_cons_succ] at this; rw [this]; congr 1; omega
   ·by_cases c:i'=i
    ·subst c; rw [getD_set_self (by omega)]; simp
    ·rw [getD_set_ne false (Ne.symm c),hL i' hi']
     simp; omega
theorem draw_any2 {n:Nat} (D:DrawOk2 all n) {vs:List SV} (hvl:vs.length=n) (hr:R C (.ops all (all.toList.drop n)::k) (pre s ((all.toList.take n).zip vs)))
  (hy:∀ i o,(all.toList.take n)[i]? = some o→YG C.dr C.P all (pre s (((all.toList.take n).zip vs).take i)) o (vs.getD i .dead)∧dstOk s o):
  ∀ (fuel:Nat) (L:Array Bool) (s':St) (a:Act) (w:World) (E:Env),At all n vs s s' L→cnt L≤fuel→Gam C s' a w E→wpAny C.P .any all (fin C k) fuel L a w:=by
 have hnle:=D.le
 have zget:∀ i o,i<n→all[i]? = some o→((all.toList.take n).zip vs)[i]? = some (o,vs.getD i .dead):=by
  intro i o hi ho
  have h1:(all.toList.take n)[i]? = some o:=by rw [List.getElem?_take,if_pos hi]; simpa using ho
  have h2:vs[i]? = some (vs.getD i .dead):=by rw [List.getD_eq_getElem?_getD,List.getElem?_eq_getElem (by omega)]; rfl
  rw [List.getElem?_zip_eq_some]; exact ⟨h1,h2⟩
 have preGet:∀ m,m≤n→∀ t,(∀ i o,i<m→all[i]? = some o→o.dst=some t→(pre s (((all.toList.take n).zip vs).take m)).get t=vs.getD i .dead) ∧
   ((∀ i o,i<m→all[i]? = some o→o.dst≠some t)→(pre s (((all.toList.take n).zip vs).take m)).get t=s.get t):=by
  intro m hm t
  have zl:((all.toList.take n).zip vs).length=n:=by simp [hvl]; omega
  have memz:∀ p j,((all.toList.take n).zip vs)[j]? = some p→all[j]? = some p.1∧j<n:=by
   intro p j hp
   have hj:j<n:=by rw [← zl]; exact (List.getElem?_eq_some_iff.1 hp).1
   rw [List.getElem?_zip_eq_some] at hp
   have:=hp.1
   rw [List.getElem?_take,if_pos hj] at this
   exact ⟨by simpa using this,hj⟩
  constructor
  ·intro i o hi ho hd
   have hz:=zget i o (by omega) ho
   have hil:i<((all.toList.take n).zip vs).length:=by omega
   have hsplit:((all.toList.take n).zip vs).take m=((all.toList.take n).zip vs).take i++(o,vs.getD i .dead)::(((all.toList.take n).zip vs).take m).drop (i+1):=by
    have e1:(((all.toList.take n).zip vs).take m)[i]? = some (o,vs.getD i .dead):=by rw [List.getElem?_take,if_pos hi]; exact hz
    have hl2:i<(((all.toList.take n).zip vs).take m).length:=(List.getElem?_eq_some_iff.1 e1).1
    have e2:(((all.toList.take n).zip vs).take m)[i]=(o,vs.getD i .dead):=(List.getElem?_eq_some_iff.1 e1).2
    have e3:=List.take_append_drop i (((all.toList.take n).zip vs).take m)
    rw [List.drop_eq_getElem_cons hl2,e2,List.take_take,Nat.min_eq_left (by omega)] at e3
    exact e3.symm
   rw [hsplit]
   refine pre_some t _ _ o _ s hd (fun p hp=>?_)
   obtain ⟨q,hq,rfl⟩:=List.getElem_of_mem hp
   intro hpd
   have hq2:((((all.toList.take n).zip vs).take m).drop (i+1))[q]? = some (((((all.toList.take n).zip vs).take m).drop (i+1))[q]):=List.getElem?_eq_getElem hq
   rw [List.getElem?_drop,List.getElem?_take] at hq2
   split at hq2
   ·obtain ⟨h3,h4⟩:=memz _ _ hq2
    exact D.dist (i+1+q) i _ o t h4 (by omega) h3 ho hpd hd
   ·cases hq2
  ·intro hno
   refine pre_none t _ s (fun p hp=>?_)
   obtain ⟨q,hq,rfl⟩:=List.getElem_of_mem hp
   have hq2:(((all.toList.take n).zip vs).take m)[q]? = some ((((all.toList.take n).zip vs).take m)[q]):=List.getElem?_eq_getElem hq
   rw [List.getElem?_take] at hq2
   split at hq2
   ·obtain ⟨h3,h4⟩:=memz _ _ hq2
    exact hno q _ (by omega) h3
   ·cases hq2
 intro fuel
 induction fuel with
 | zero=>
  intro L s' a w E A hcnt g
  have hall:=cnt_zero (Nat.le_zero.1 hcnt)
  have hn:n=all.size:=by
   rcases Nat.lt_or_ge n all.size with h | h
   ·have h1:=A.tail n (Nat.le_refl _); rw [hall n (by rw [A.size]; exact h)] at h1; cases h1
   ·omega
  have hle:St.le s' (pre s ((all.toList.take n).zip vs)):=by
   have hps:=pre_same s ((all.toList.take n).zip vs)
   have hpg:=preGet n (Nat.le_refl _)
   have ht:((all.toList.take n).zip vs).take n=(all.toList.take n).zip vs:=List.take_of_length_le (by simp [hvl]; omega)
   simp only [ht] at hpg
   refine ⟨hps.1.trans A.sn.symm,fun t=>?_,fun t cs h=>⟨cs,by simpa [St.var,hps.2.1,A.sv] using h,rfl,fun _ _=>.same _⟩,fun i r h=>by simpa [St.row,hps.2.2.1,A.sr] using h,fun r m h=>by simpa [St.map,hps.2.2.2.1,A.sm] using h,fun t=>by simp only [St.gget,hps.2.2.2.2,A.sg]; exact .same _⟩
   by_cases c:∃ (i:Nat) (o:Oper),i<n∧all[i]? = some o∧o.dst=some t
   ·obtain ⟨i,o,hi,ho,hd⟩:=c
    rw [(hpg t).1 i o hi ho hd,A.done i o t hi (hall i (by rw [A.size]; omega)) ho hd]; exact .same _
   ·have c':∀ i o,i<n→all[i]? = some o→o.dst≠some t:=fun i o hi ho hd=>c ⟨i,o,hi,ho,hd⟩
    rw [(hpg t).2 c',A.rest t (fun i o hi _ ho=>c' i o hi ho)]; exact .same _
  have hw:=hr a w E (g.weak hle)
  simp only [fin] at hw
  exact draw_tail2 D _ n L 0 a w (Nat.le_refl _) (by simp; omega) (fun j=>by simp) (by simp; omega) A.size (fun i hi=>by rw [hall i (by rw [A.size]; exact hi)]; simp; omega) hw
 | succ fuel ih=>
  intro L s' a w E A hcnt g
  by_cases hpure:∀ i,i<n→L.getD i false=true
  ·
   have hle:St.le s' (pre s ((all.toList.take n).zip vs)):=by
    have hps:=pre_same s ((all.toList.take n).zip vs)
    have hpg:=preGet n (Nat.le_refl _)
    have ht:((all.toList.take n).zip vs).take n=(all.toList.take n).zip vs:=List.take_of_length_le (by simp [hvl]; omega)
    simp only [ht] at hpg
    refine ⟨hps.1.trans A.sn.symm,fun t=>?_,fun t cs h=>⟨cs,by simpa [St.var,hps.2.1,A.sv] using h,rfl,fun _ _=>.same _⟩,fun i r h=>by simpa [St.row,hps.2.2.1,A.sr] using h,fun r m h=>by simpa [St.map,hps.2.2.2.1,A.sm] using h,fun t=>by simp only [St.gget,hps.2.2.2.2,A.sg]; exact .same _⟩
    by_cases c:∃ (i:Nat) (o:Oper),i<n∧all[i]? = some o∧o.dst=some t
    ·obtain ⟨i,o,hi,ho,hd⟩:=c
     rw [(hpg t).1 i o hi ho hd,A.done i o t hi (hpure i hi) ho hd]; exact .same _
    ·have c':∀ i o,i<n→all[i]? = some o→o.dst≠some t:=fun i o hi ho hd=>c ⟨i,o,hi,ho,hd⟩
     rw [(hpg t).2 c',A.rest t (fun i o hi _ ho=>c' i o hi ho)]; exact .same _
   have hw:=hr a w E (g.weak hle)
   simp only [fin] at hw
   have hLd:∀ i,i<all.size→L.getD i false=decide (i<n):=by
    intro i hi
    by_cases c:i<n
    ·rw [hpure i c]; simp [c]
    ·rw [A.tail i (by omega)]; simp [c]
   have hc2:all.size - n≤cnt L:=by
    unfold cnt
    have e1:L.toList=L.toList.take n++L.toList.drop n:=(List.take_append_drop n _).symm
    rw [e1,List.countP_append]
    have e2:(L.toList.drop n).countP (fun b=>!b)=(L.toList.drop n).length:=by
     rw [List.countP_eq_length]
     intro b hb
     obtain ⟨q,hq,rfl⟩:=List.getElem_of_mem hb
     have hql:n+q<L.size:=by simpa [Nat.lt_sub_iff_add_lt,Nat.add_comm] using hq
     have:=A.tail (n+q) (by omega)
     have h3:L.getD (n+q) false=L[n+q]:=by simp [Array.getD,hql]
     simp only [List.getElem_drop,Array.getElem_toList]
     rw [← h3,this]; rfl
    rw [e2]
    have:=A.size
    simp; omega
   exact draw_tail2 D _ n L (fuel+1) a w (Nat.le_refl _) (by simp; omega) (fun j=>by simp) (by simp; omega) A.size hLd hw
  ·
   have hex:∃ i,i<n∧L.getD i false=false:=by
    apply Classical.byContradiction
    intro hno
    refine hpure fun i hi=>?_
    cases hb:L.getD i false with
    | true=>rfl
    | false=>exact (hno ⟨i,hi,hb⟩).elim
   obtain ⟨i0,⟨hi0,hf0⟩,hmin⟩:=exists_least (p:=fun i=>i<n∧L.getD i false=false) hex
   refine ⟨fun hnil=>?_,fun i hi=>?_⟩
   ·have hlt:i0<all.size:=by omega
    have ho0:all[i0]? = some all[i0]:=by simp [hlt]
    have:i0∈Region.ready .any all L:=mem_ready.2 ⟨by rw [getD_true_false (by rw [A.size]; exact hlt)]; exact hf0,all[i0],ho0,fun e he hb=>by
     have hel:=D.edge i0 _ ho0 e he hb
     cases hb2:L.getD e.on false with
     | true=>rfl
     | false=>have:=hmin e.on ⟨by omega,hb2⟩; omega⟩
    rw [hnil] at this; cases this
   ·obtain ⟨hun,o,ho,hall⟩:=mem_ready.1 hi
    have hlt:=(Array.getElem?_eq_some_iff.1 ho).1
    have hunf:L.getD i false=false:=by rw [← getD_true_false (by rw [A.size]; exact hlt)]; exact hun
    have hin:i<n:=by
     rcases Nat.lt_or_ge i n with h | h
     ·exact h
     ·have hbit:=D.tail i o h ho i0 (by omega)
      have:=(anc_listed2 D A.closed A.size i o ho hall i0 hbit).1
      rw [hf0] at this; cases this
    have hoT:(all.toList.take n)[i]? = some o:=by rw [List.getElem?_take,if_pos hin]; simpa using ho
    obtain ⟨hY,hdo⟩:=hy i o hoT
    have hps:=pre_same s (((all.toList.take n).zip vs).take i)
    have hlook:∀ t∈o.looksAt all,s'.get t=(pre s (((all.toList.take n).zip vs).take i)).get t:=by
     intro t ht
     have hpg:=preGet i (by omega) t
     by_cases c:∃ (j:Nat) (o':Oper),j<n∧all[j]? = some o'∧o'.dst=some t
     ·obtain ⟨j,o',hjn,ho',hd'⟩:=c
      have hbit:=D.look i o hin ho t ht j o' hjn ho' hd'
      obtain ⟨hLj,hji⟩:=anc_listed2 D A.closed A.size i o ho hall j hbit
      rw [hpg.1 j o' hji ho' hd',A.done j o' t (by omega) hLj ho' hd']
     ·have c':∀ (j:Nat) (o':Oper),j<n→all[j]? = some o'→o'.dst≠some t:=fun j o' hjn ho' hd'=>c ⟨j,o',hjn,ho',hd'⟩
      rw [hpg.2 (fun j o' hji ho'=>c' j o' (by omega) ho'),A.rest t (fun j o' hj _ ho'=>c' j o' hj ho')]
    have hY':=hY.congr hlook (by rw [hps.2.1]; exact A.sv) (by rw [hps.2.2.1]; exact A.sr)
    have hd':dstOk s' o:=fun t ht=>by rw [A.sn]; exact hdo t ht
    refine YG.step g ho hd' hY' fun u w' E' g'=>?_
    refine ih _ (s'.put o.dst (vs.getD i .dead)) _ w' E' ?_ (by have:=cnt_set (L:=L) (i:=i) (by rw [A.size]; exact hlt) hunf; omega) g'
    have hset:∀ j,(L.setIfInBounds i true).getD j false=if j=i then true else L.getD j false:=by
     intro j
     by_cases c:j=i
     ·subst c; rw [if_pos rfl,getD_set_self (by rw [A.size]; exact hlt)]
     ·rw [if_neg c,getD_set_ne false (Ne.symm c)]
    have hsame:(s'.put o.dst (vs.getD i .dead)).n=s'.n∧(s'.put o.dst (vs.getD i .dead)).vars=s'.vars∧(s'.put o.dst (vs.getD i .dead)).rows=s'.rows∧(s'.put o.dst (vs.getD i .dead)).maps=s'.maps∧(s'.put o.dst (vs.getD i .dead)).gs=s'.gs:=by cases o.dst <;> exact ⟨rfl,rfl,rfl,rfl,rfl⟩
    exact {
     size:=by simpa using A.size
     closed:=fun j o' hj ho' e he hb=>by
      rw [hset] at hj ⊢
      split
      ·rfl
      ·split at hj
       ·rename_i h; subst h; rw [ho] at ho'; cases ho'; exact hall e he hb
       ·exact A.closed j o' hj ho' e he hb
     tail:=fun j hj=>by rw [hset,if_neg (by omega)]; exact A.tail j hj
     sn:=hsame.1.trans A.sn
     sv:=hsame.2.1.trans A.sv
     sr:=hsame.2.2.1.trans A.sr
     sm:=hsame.2.2.2.1.trans A.sm
     sg:=hsame.2.2.2.2.trans A.sg
     done:=fun j o' t hj hL ho' hd=>by
      rw [get_put]
      rw [hset] at hL
      by_cases c:j=i
      ·subst c; rw [ho] at ho'; cases ho'; rw [if_pos hd]
      ·rw [if_neg c] at hL
       rw [if_neg]
       ·exact A.done j o' t hj hL ho' hd
       ·intro hdi
        rcases Nat.lt_or_gt_of_ne c with c | c
        ·exact D.dist i j o o' t hin c ho ho' hdi hd
        ·exact D.dist j i o' o t hj c ho' ho hd hdi
     rest:=fun t hno=>by
      rw [get_put,if_neg (hno i o hin (by rw [hset,if_pos rfl]) ho)]
      exact A.rest t fun j o' hj hL ho'=>hno j o' hj (by rw [hset]; split; rfl; exact hL) ho' }
theorem R.draw2 {id:Nat} (n:Nat) (hm:C.P.follows .mixedOrders=true) (hB:drawB2 all n=true) (h:RY C all (all.toList.drop n) k (all.toList.take n) s):R C (.code (.region id all true)::k) s:=by
 intro a w E g
 have D:=drawB_ok2 hB
 obtain ⟨vs,hl,hr,hy⟩:=RY.unfold _ _ _ h
 refine wp_region_any hm ?_
 refine draw_any2 D (by have:=D.le; simp at hl; omega) hr hy all.size (Array.replicate all.size false) s a _ E ?_ ?_ g.drew
 ·exact {
   size:=by simp
   closed:=fun i o hi=>by simp [Array.getD] at hi
   tail:=fun i _=>by simp [Array.getD]
   sn:=rfl
   sv:=rfl
   sr:=rfl
   sm:=rfl
   sg:=rfl
   done:=fun i o t _ hi=>by simp [Array.getD] at hi
   rest:=fun _ _=>rfl }
 ·unfold cnt; exact Nat.le_trans List.countP_le_length (by simp)
end
theorem R.drawE2 {C:Cx} {all:Array Oper} {k:List KI} {s:St} {id:Nat} (n m:Nat) (hm:C.P.follows .mixedOrders=true) (hB:drawB2 all n=true) (h:evY C all (all.toList.drop n) k m (all.toList.take n) s):R C (.code (.region id all true)::k) s:=
 R.draw2 n hm hB (evY_ok m _ s h)
end Go.Abs
end
