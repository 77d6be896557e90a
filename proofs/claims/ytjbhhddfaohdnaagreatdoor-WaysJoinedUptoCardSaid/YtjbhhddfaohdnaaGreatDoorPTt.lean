/- A part of the proof: Tt. -/
import Derived.Test.YtjbhhddfaohdnaaGreatDoorPNr
import Derived.Test.YtjbhhddfaohdnaaGreatDoorPDrw
set_option linter.all false
set_option linter.deprecated false
namespace Go.Proofs.YtjbhhddfaohdnaaGreatDoor
open Go Go.Proofs Go.Abs
set_option maxRecDepth 10000
set_option maxHeartbeats 4000000
theorem ent255:Ent Tryz.prog 255:=fun _ _=>by kernel_rfl
theorem quote1 (L:List UInt8):(⟨#[34]⟩:ByteArray)++str L=str (34::L):=str_app [34] L
theorem quote2 (t:ByteArray):str (34::replL (bytes t))++(⟨#[34]⟩:ByteArray)=quoteB t:=by
 have:=str_app (34::replL (bytes t)) [34]
 rw [this]; rfl
theorem replL_le2 (l:List UInt8):(replL l).length≤2 * l.length:=by
 induction l with
 | nil=>simp [replL]
 | cons c l ih=>
  have:replL (c::l)=replB c++replL l:=rfl
  rw [this,List.length_append,List.length_cons]
  have:(replB c).length≤2:=by
   unfold replB
   repeat' split
   all_goals simp
  omega
theorem quote1_len {t:ByteArray} (ht:t.size≤200):(((⟨#[34]⟩:ByteArray).size+(str (replL (bytes t))).size:Nat):Int)≤IntKind.i64.max:=by
 have h1:=replL_le2 (bytes t)
 have h2:(bytes t).length=t.size:=Array.length_toList
 have h3:(⟨#[34]⟩:ByteArray).size=1:=rfl
 have h4:(str (replL (bytes t))).size=(replL (bytes t)).length:=rfl
 have h5:IntKind.i64.max=9223372036854775807:=rfl
 rw [h3,h4,h5]; omega
theorem quote2_len {t:ByteArray} (ht:t.size≤200):(((str (34::replL (bytes t))).size+(⟨#[34]⟩:ByteArray).size:Nat):Int)≤IntKind.i64.max:=by
 have h1:=replL_le2 (bytes t)
 have h2:(bytes t).length=t.size:=Array.length_toList
 have h3:(⟨#[34]⟩:ByteArray).size=1:=rfl
 have h4:(str (34::replL (bytes t))).size=(replL (bytes t)).length+1:=rfl
 have h5:IntKind.i64.max=9223372036854775807:=rfl
 rw [h3,h4,h5]; omega
theorem replG_ok (t:ByteArray) (ht:t.size≤200) {C:Cx} {s:St} {a:Act} {w:World} {E:Env} (g:Gam C s a w E) (hv:s.var 11=some (newD.map .pd)) {u x:Value} (hu:u = .pointer (some ⟨E.vb 11,0,none⟩)) (hx:RdV w E.G x (S t)):
  Calls Tryz.prog 255 #[u,x] w fun e w'=>e = .returned (.string (str (replL (bytes t))))∧Go.Abs.Aside (E.vb 11) w w':=by
 obtain ⟨cur,ty,m,hs,hr⟩:=g.vars 11 _ hv
 subst hu
 have hx:x = .string t:=RdV.raw_eq hx
 subst hx
 have h0:cur.getD 0 undef = .int .u32 0:=RdV.raw_eq (w:=w) (G:=E.G) (hr 0 (by simp)).2
 have h1:cur.getD 1 undef = .int .i32 0:=RdV.raw_eq (w:=w) (G:=E.G) (hr 1 (by simp)).2
 have h2:cur.getD 2 undef = .int .u32 0:=RdV.raw_eq (w:=w) (G:=E.G) (hr 2 (by simp)).2
 have h3:cur.getD 3 undef = .nilIface:=RdV.raw_eq (w:=w) (G:=E.G) (hr 3 (by simp)).2
 have h4:Rd w E.G (cur.getD 4 undef) (strs oldB):=(hr 4 (by simp)).2
 have hs:cur.size=5:=hs
 have hcur:cur = #[.int .u32 0,.int .i32 0,.int .u32 0,.nilIface,cur.getD 4 undef]:=by
  apply Array.ext
  ·simpa using hs
  ·intro i hi1 hi2
   have:i=0∨i=1∨i=2∨i=3∨i=4:=by omega
   rcases this with rfl | rfl | rfl | rfl | rfl
   ·simpa [Array.getD,hs] using h0
   ·simpa [Array.getD,hs] using h1
   ·simpa [Array.getD,hs] using h2
   ·simpa [Array.getD,hs] using h3
   ·simp [Array.getD,hs]
 have hb:=m.2.2
 rw [hcur] at hb
 exact replR_ok t (by omega) g.good m.2.1 hb h4
def T200 (k m:Int) (t:ByteArray):Nat→St
 | 0=>⟨34,[(1,.vptr 1 0)],[(1,[.pd (I k),.pd (I m),.pd (S t)])],[],[],[]⟩
 | 1=>⟨34,[(1,.vptr 1 0),(10,.pd (strs oldB))],[(1,[.pd (I k),.pd (I m),.pd (S t)])],[],[],[]⟩
 | 3=>⟨34,[(1,.vptr 1 0),(11,.vptr 11 0)],[(1,[.pd (I k),.pd (I m),.pd (S t)]),(11,newD.map .pd)],[],[],[]⟩
 | 4=>⟨34,[(1,.vptr 1 0),(12,.vptr 1 2)],[(1,[.pd (I k),.pd (I m),.pd (S t)])],[],[],[]⟩
 | 5=>⟨34,[(1,.vptr 1 0),(10,.pd (strs oldB)),(12,.vptr 1 2)],[(1,[.pd (I k),.pd (I m),.pd (S t)])],[],[],[]⟩
 | 7=>⟨34,[(1,.vptr 1 0),(11,.vptr 11 0),(12,.vptr 1 2)],[(1,[.pd (I k),.pd (I m),.pd (S t)]),(11,newD.map .pd)],[],[],[]⟩
 | 12=>⟨34,[(1,.vptr 1 0),(13,.pd (S t))],[(1,[.pd (I k),.pd (I m),.pd (S t)])],[],[],[]⟩
 | 13=>⟨34,[(1,.vptr 1 0),(10,.pd (strs oldB)),(13,.pd (S t))],[(1,[.pd (I k),.pd (I m),.pd (S t)])],[],[],[]⟩
 | 15=>⟨34,[(1,.vptr 1 0),(11,.vptr 11 0),(13,.pd (S t))],[(1,[.pd (I k),.pd (I m),.pd (S t)]),(11,newD.map .pd)],[],[],[]⟩
 | 31=>⟨34,[(1,.vptr 1 0),(14,.pd (S (str (replL (bytes t)))))],[(1,[.pd (I k),.pd (I m),.pd (S t)])],[],[],[]⟩
 | 63=>⟨34,[(1,.vptr 1 0),(15,.pd (S (str (34::replL (bytes t)))))],[(1,[.pd (I k),.pd (I m),.pd (S t)])],[],[],[]⟩
 | 127=>⟨34,[(1,.vptr 1 0),(16,.pd (S (quoteB t)))],[(1,[.pd (I k),.pd (I m),.pd (S t)])],[],[],[]⟩
 | 255=>⟨34,[(1,.vptr 1 0),(16,.pd (S (quoteB t))),(2,.pd (S (quoteB t)))],[(1,[.pd (I k),.pd (I m),.pd (S t)])],[],[],[]⟩
 | _=>⟨0,[],[],[],[],[]⟩
def es200:List (Nat × Nat):=[(0,0),(0,2),(1,1),(1,2),(4,0),(4,3),(3,2),(5,1),(5,3),(12,0),(7,3),(13,1),(15,4),(31,5),(63,6),(127,7)]
theorem t200_0 (k m:Int) (t:ByteArray):T200 k m t 0=⟨34,[(1,.vptr 1 0)],[(1,[.pd (I k),.pd (I m),.pd (S t)])],[],[],[]⟩:=rfl
theorem t200_1 (k m:Int) (t:ByteArray):T200 k m t 1=⟨34,[(1,.vptr 1 0),(10,.pd (strs oldB))],[(1,[.pd (I k),.pd (I m),.pd (S t)])],[],[],[]⟩:=rfl
theorem t200_3 (k m:Int) (t:ByteArray):T200 k m t 3=⟨34,[(1,.vptr 1 0),(11,.vptr 11 0)],[(1,[.pd (I k),.pd (I m),.pd (S t)]),(11,newD.map .pd)],[],[],[]⟩:=rfl
theorem t200_4 (k m:Int) (t:ByteArray):T200 k m t 4=⟨34,[(1,.vptr 1 0),(12,.vptr 1 2)],[(1,[.pd (I k),.pd (I m),.pd (S t)])],[],[],[]⟩:=rfl
theorem t200_5 (k m:Int) (t:ByteArray):T200 k m t 5=⟨34,[(1,.vptr 1 0),(10,.pd (strs oldB)),(12,.vptr 1 2)],[(1,[.pd (I k),.pd (I m),.pd (S t)])],[],[],[]⟩:=rfl
theorem t200_7 (k m:Int) (t:ByteArray):T200 k m t 7=⟨34,[(1,.vptr 1 0),(11,.vptr 11 0),(12,.vptr 1 2)],[(1,[.pd (I k),.pd (I m),.pd (S t)]),(11,newD.map .pd)],[],[],[]⟩:=rfl
theorem t200_12 (k m:Int) (t:ByteArray):T200 k m t 12=⟨34,[(1,.vptr 1 0),(13,.pd (S t))],[(1,[.pd (I k),.pd (I m),.pd (S t)])],[],[],[]⟩:=rfl
theorem t200_13 (k m:Int) (t:ByteArray):T200 k m t 13=⟨34,[(1,.vptr 1 0),(10,.pd (strs oldB)),(13,.pd (S t))],[(1,[.pd (I k),.pd (I m),.pd (S t)])],[],[],[]⟩:=rfl
theorem t200_15 (k m:Int) (t:ByteArray):T200 k m t 15=⟨34,[(1,.vptr 1 0),(11,.vptr 11 0),(13,.pd (S t))],[(1,[.pd (I k),.pd (I m),.pd (S t)]),(11,newD.map .pd)],[],[],[]⟩:=rfl
theorem t200_31 (k m:Int) (t:ByteArray):T200 k m t 31=⟨34,[(1,.vptr 1 0),(14,.pd (S (str (replL (bytes t)))))],[(1,[.pd (I k),.pd (I m),.pd (S t)])],[],[],[]⟩:=rfl
theorem t200_63 (k m:Int) (t:ByteArray):T200 k m t 63=⟨34,[(1,.vptr 1 0),(15,.pd (S (str (34::replL (bytes t)))))],[(1,[.pd (I k),.pd (I m),.pd (S t)])],[],[],[]⟩:=rfl
theorem t200_127 (k m:Int) (t:ByteArray):T200 k m t 127=⟨34,[(1,.vptr 1 0),(16,.pd (S (quoteB t)))],[(1,[.pd (I k),.pd (I m),.pd (S t)])],[],[],[]⟩:=rfl
theorem t200_255 (k m:Int) (t:ByteArray):T200 k m t 255=⟨34,[(1,.vptr 1 0),(16,.pd (S (quoteB t))),(2,.pd (S (quoteB t)))],[(1,[.pd (I k),.pd (I m),.pd (S t)])],[],[],[]⟩:=rfl
theorem text1_ok (v:V) (hk:v.kind=1):FnW Tryz.prog 200 [.pd (val v)] [S (textV v)]:=by
 obtain ⟨k,m,t⟩:=v
 have hk:k=1:=hk
 refine FnW.mk Tryz.func200 rfl ent200 (by simp [Tryz.ntmps200]) fun w G=>?_
 (refine evC_ok (cs:=[(4,.of (valid_ok ⟨k,m,t⟩))]) 80 _ _ ?_; simp only [go_sem,List.cons.injEq,SV.pd.injEq,ite_self])
 refine ⟨fun h=>?_,fun h=>?_⟩
 ·have hv:textV ⟨k,m,t⟩=ByteArray.empty:=by unfold textV; simp [h]
  rw [hv]
  (refine ev8 ?_; simp only [go_sem])
  refine R.retW (vc:=True) ?_ trivial
  rfl
 have hval:validV ⟨k,m,t⟩=true:=by simpa using h
 have hk1:(k == 1)=true:=by simp [hk]
 have ht:t.size≤200:=by
  have h2:=hval
  unfold validV at h2
  simp [hk] at h2
  exact h2.1
 have hv:textV ⟨k,m,t⟩=quoteB t:=by
  unfold textV
  rw [hval]
  simp only [Bool.not_true,Bool.false_eq_true,if_false]
  rw [if_pos hk]
 rw [hv]
 clear hval h hv
 (refine evL8 ?_; simp only [go_sem,↓reduceIte,hk1])
 refine R.to (T200 k m t 0) (by simp only [t200_0]; (simp only [go_sem]); all_goals (and_intros <;> rfl)) ?_
 refine R.drawT (T200 k m t) es200 255 mixed (by kernel_rfl) (by kernel_rfl) (by kernel_rfl) (fun h=>h) ?_ ?_
 ·unfold es200
  refine List.forall_mem_cons.2 ⟨?_,?_⟩
  ·simp only [t200_0,t200_1,Nat.reduceOr,Nat.reducePow,Nat.reduceShiftLeft]
   (refine ev8 ?_; simp only [go_sem])
   exact R.endE rfl (by (simp only [go_sem,St.delVar,delK,List.map_cons,List.map_nil]); all_goals (and_intros <;> rfl))
  refine List.forall_mem_cons.2 ⟨?_,?_⟩
  ·simp only [t200_0,t200_4,Nat.reduceOr,Nat.reducePow,Nat.reduceShiftLeft]
   (refine ev8 ?_; simp only [go_sem])
   exact R.endE rfl (by (simp only [go_sem,St.delVar,delK,List.map_cons,List.map_nil]); all_goals (and_intros <;> rfl))
  refine List.forall_mem_cons.2 ⟨?_,?_⟩
  ·simp only [t200_1,t200_3,Nat.reduceOr,Nat.reducePow,Nat.reduceShiftLeft]
   refine R.callNew (f:=254) (t:=11) (ds:=newD) rfl rfl rfl rfl (by (simp only [go_sem])) rfl ent254 (fun a w E g=>by simp only [List.map_toArray,List.map_cons,List.map_nil]; exact newR_ok w E.G _ g.good (g.slots 10)) ?_
   (refine ev8 ?_; simp only [go_sem,St.delVar,delK,List.map_cons,List.map_nil])
   exact R.endE rfl (by (simp only [go_sem,St.delVar,delK,List.map_cons,List.map_nil]); all_goals (and_intros <;> rfl))
  refine List.forall_mem_cons.2 ⟨?_,?_⟩
  ·simp only [t200_1,t200_5,Nat.reduceOr,Nat.reducePow,Nat.reduceShiftLeft]
   (refine ev8 ?_; simp only [go_sem])
   exact R.endE rfl (by (simp only [go_sem,St.delVar,delK,List.map_cons,List.map_nil]); all_goals (and_intros <;> rfl))
  refine List.forall_mem_cons.2 ⟨?_,?_⟩
  ·simp only [t200_4,t200_5,Nat.reduceOr,Nat.reducePow,Nat.reduceShiftLeft]
   (refine ev8 ?_; simp only [go_sem])
   exact R.endE rfl (by (simp only [go_sem,St.delVar,delK,List.map_cons,List.map_nil]); all_goals (and_intros <;> rfl))
  refine List.forall_mem_cons.2 ⟨?_,?_⟩
  ·simp only [t200_4,t200_12,Nat.reduceOr,Nat.reducePow,Nat.reduceShiftLeft]
   (refine ev8 ?_; simp only [go_sem])
   exact R.endE rfl (by (simp only [go_sem,St.delVar,delK,List.map_cons,List.map_nil]); all_goals (and_intros <;> rfl))
  refine List.forall_mem_cons.2 ⟨?_,?_⟩
  ·simp only [t200_3,t200_7,Nat.reduceOr,Nat.reducePow,Nat.reduceShiftLeft]
   (refine ev8 ?_; simp only [go_sem])
   exact R.endE rfl (by (simp only [go_sem,St.delVar,delK,List.map_cons,List.map_nil]); all_goals (and_intros <;> rfl))
  refine List.forall_mem_cons.2 ⟨?_,?_⟩
  ·simp only [t200_5,t200_7,Nat.reduceOr,Nat.reducePow,Nat.reduceShiftLeft]
   refine R.callNew (f:=254) (t:=11) (ds:=newD) rfl rfl rfl rfl (by (simp only [go_sem])) rfl ent254 (fun a w E g=>by simp only [List.map_toArray,List.map_cons,List.map_nil]; exact newR_ok w E.G _ g.good (g.slots 10)) ?_
   (refine ev8 ?_; simp only [go_sem,St.delVar,delK,List.map_cons,List.map_nil])
   exact R.endE rfl (by (simp only [go_sem,St.delVar,delK,List.map_cons,List.map_nil]); all_goals (and_intros <;> rfl))
  refine List.forall_mem_cons.2 ⟨?_,?_⟩
  ·simp only [t200_5,t200_13,Nat.reduceOr,Nat.reducePow,Nat.reduceShiftLeft]
   (refine ev8 ?_; simp only [go_sem])
   exact R.endE rfl (by (simp only [go_sem,St.delVar,delK,List.map_cons,List.map_nil]); all_goals (and_intros <;> rfl))
  refine List.forall_mem_cons.2 ⟨?_,?_⟩
  ·simp only [t200_12,t200_13,Nat.reduceOr,Nat.reducePow,Nat.reduceShiftLeft]
   (refine ev8 ?_; simp only [go_sem])
   exact R.endE rfl (by (simp only [go_sem,St.delVar,delK,List.map_cons,List.map_nil]); all_goals (and_intros <;> rfl))
  refine List.forall_mem_cons.2 ⟨?_,?_⟩
  ·simp only [t200_7,t200_15,Nat.reduceOr,Nat.reducePow,Nat.reduceShiftLeft]
   (refine ev8 ?_; simp only [go_sem])
   exact R.endE rfl (by (simp only [go_sem,St.delVar,delK,List.map_cons,List.map_nil]); all_goals (and_intros <;> rfl))
  refine List.forall_mem_cons.2 ⟨?_,?_⟩
  ·simp only [t200_13,t200_15,Nat.reduceOr,Nat.reducePow,Nat.reduceShiftLeft]
   refine R.callNew (f:=254) (t:=11) (ds:=newD) rfl rfl rfl rfl (by (simp only [go_sem])) rfl ent254 (fun a w E g=>by simp only [List.map_toArray,List.map_cons,List.map_nil]; exact newR_ok w E.G _ g.good (g.slots 10)) ?_
   (refine ev8 ?_; simp only [go_sem,St.delVar,delK,List.map_cons,List.map_nil])
   exact R.endE rfl (by (simp only [go_sem,St.delVar,delK,List.map_cons,List.map_nil]); all_goals (and_intros <;> rfl))
  refine List.forall_mem_cons.2 ⟨?_,?_⟩
  ·simp only [t200_15,t200_31,Nat.reduceOr,Nat.reducePow,Nat.reduceShiftLeft]
   refine R.callTurn (f:=255) (t:=11) (cs:=newD.map .pd) (u:=.string (str (replL (bytes t)))) rfl rfl rfl (dstP_ok (by (simp only [go_sem]))) ent255 rfl rfl (fun a w E g=>by simp only [List.map_toArray,List.map_cons,List.map_nil]; exact replG_ok t ht g rfl (g.slots 11) (g.slots 13)) ?_
   (refine ev8 ?_; simp only [go_sem,St.delVar,delK,List.map_cons,List.map_nil])
   exact R.endE rfl (by (simp only [go_sem,St.delVar,delK,List.map_cons,List.map_nil]); all_goals (and_intros <;> rfl))
  refine List.forall_mem_cons.2 ⟨?_,?_⟩
  ·simp only [t200_31,t200_63,Nat.reduceOr,Nat.reducePow,Nat.reduceShiftLeft]
   (refine ev8 ?_; simp only [go_sem,quote1])
   refine ⟨quote1_len ht,?_⟩
   (refine ev8 ?_; simp only [go_sem])
   exact R.endE rfl (by (simp only [go_sem,St.delVar,delK,List.map_cons,List.map_nil]); all_goals (and_intros <;> rfl))
  refine List.forall_mem_cons.2 ⟨?_,?_⟩
  ·simp only [t200_63,t200_127,Nat.reduceOr,Nat.reducePow,Nat.reduceShiftLeft]
   (refine ev8 ?_; simp only [go_sem,quote2])
   refine ⟨quote2_len ht,?_⟩
   (refine ev8 ?_; simp only [go_sem])
   exact R.endE rfl (by (simp only [go_sem,St.delVar,delK,List.map_cons,List.map_nil]); all_goals (and_intros <;> rfl))
  refine List.forall_mem_cons.2 ⟨?_,?_⟩
  ·simp only [t200_127,t200_255,Nat.reduceOr,Nat.reducePow,Nat.reduceShiftLeft]
   (refine ev8 ?_; simp only [go_sem])
   exact R.endE rfl (by (simp only [go_sem,St.delVar,delK,List.map_cons,List.map_nil]); all_goals (and_intros <;> rfl))
  exact List.forall_mem_nil _
 ·simp only [t200_255]
  (refine ev8 ?_; simp only [go_sem])
  refine R.retW (vc:=True) ?_ trivial
  rfl
theorem text_ok (v:V):FnW Tryz.prog 200 [.pd (val v)] [S (textV v)]:=by
 by_cases h:v.kind=1
 ·exact text1_ok v h
 ·exact textN_ok v h
end Go.Proofs.YtjbhhddfaohdnaaGreatDoor
