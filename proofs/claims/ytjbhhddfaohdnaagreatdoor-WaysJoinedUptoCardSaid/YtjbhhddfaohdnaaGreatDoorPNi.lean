/- A part of the proof: Or, Ni. -/
import Derived.Test.YtjbhhddfaohdnaaGreatDoorPBv
import Derived.Test.YtjbhhddfaohdnaaGreatDoorPPf
set_option linter.all false
set_option linter.deprecated false
section
namespace Go.Proofs.YtjbhhddfaohdnaaGreatDoor
def lexL {α:Type} (c:α→α→Int):List α→List α→Int
 | [],[]=>0
 | [],_::_=>-1
 | _::_,[]=>1
 | x::l,y::m=>if c x y≠0 then c x y else lexL c l m
theorem order_lex {α:Type} {c:α→α→Int} (hc:Order c):Order (lexL c) where
 eq:=by
  intro a
  induction a with
  | nil=>intro b; cases b <;> simp [lexL]
  | cons x l ih=>
   intro b
   cases b with
   | nil=>simp [lexL]
   | cons y m=>
    simp only [lexL,List.cons.injEq]
    split
    ·rename_i h; constructor
     ·intro h'; exact (h h').elim
     ·rintro ⟨rfl,_⟩; exact (h ((hc.eq _ _).2 rfl)).elim
    ·rename_i h
     have h:c x y=0:=by simpa using h
     rw [ih]; have:=(hc.eq x y).1 h; simp [this]
 flip:=by
  intro a
  induction a with
  | nil=>intro b; cases b <;> simp [lexL]
  | cons x l ih=>
   intro b
   cases b with
   | nil=>simp [lexL]
   | cons y m=>
    simp only [lexL]
    by_cases h:c x y=0
    ·have e:=(hc.eq x y).1 h; subst e
     simp [h,ih]
    ·have h':c y x≠0:=fun e=>h ((hc.eq _ _).2 ((hc.eq _ _).1 e).symm)
     rw [if_pos h,if_pos h']; exact hc.flip x y
 trans:=by
  intro a
  induction a with
  | nil=>intro b d; cases b <;> cases d <;> simp [lexL]
  | cons x l ih=>
   intro b d
   cases b with
   | nil=>simp [lexL]
   | cons y m=>
    cases d with
    | nil=>simp [lexL]
    | cons z n=>
     simp only [lexL]
     by_cases h1:c x y=0
     ·have e:=(hc.eq x y).1 h1; subst e
      by_cases h2:c x z=0
      ·simp only [h1,h2,ne_eq,not_true_eq_false,if_false]; exact ih m n
      ·simp only [h1,h2,ne_eq,not_true_eq_false,if_false,not_false_eq_true,if_true]; exact fun _ h=>h
     ·by_cases h2:c y z=0
      ·have e:=(hc.eq y z).1 h2; subst e
       simp only [h1,h2,ne_eq,not_true_eq_false,if_false,not_false_eq_true,if_true]; exact fun h _=>h
      ·simp only [h1,h2,ne_eq,not_false_eq_true,if_true]
       intro h3 h4
       have h5:=hc.trans x y z h3 h4
       rw [if_pos (by omega)]; exact h5
theorem cmpR_lex (a b:List V):cmpR a b=lexL cmpV a b:=by
 induction a generalizing b with
 | nil=>cases b <;> rfl
 | cons x l ih=>cases b with
  | nil=>rfl
  | cons y m=>simp only [cmpR,lexL,ih]
theorem lessS_irrefl (a:ByteArray):lessS a a=false:=by simp [lessS,List.lt_irrefl]
theorem lessS_trans {a b d:ByteArray} (h1:lessS a b=true) (h2:lessS b d=true):lessS a d=true:=by
 simp only [lessS,decide_eq_true_eq] at *; exact List.lt_trans h1 h2
theorem lessS_total {a b:ByteArray} (h1:lessS a b=false) (h2:lessS b a=false):a=b:=by
 simp only [lessS,decide_eq_false_iff_not] at h1 h2
 have:=List.le_antisymm (List.not_lt.1 h2) (List.not_lt.1 h1)
 cases a; cases b
 simpa using Array.toList_inj.1 this
theorem order_cmpS:Order cmpS where
 eq a b:=by
  unfold cmpS
  by_cases h1:lessS a b=true
  ·simp only [h1,if_true]
   constructor
   ·intro h; omega
   ·rintro rfl; rw [lessS_irrefl] at h1; cases h1
  ·simp only [h1]
   by_cases h2:lessS b a=true
   ·simp only [h2,if_true]
    constructor
    ·intro h; simp at h
    ·rintro rfl; rw [lessS_irrefl] at h2; cases h2
   ·simp [h2]
    exact lessS_total (by simpa using h1) (by simpa using h2)
 flip a b:=by
  unfold cmpS
  have:lessS a b=true→lessS b a=true→False:=fun h1 h2=>by have:=lessS_trans h1 h2; rw [lessS_irrefl] at this; cases this
  cases h1:lessS a b <;> cases h2:lessS b a <;> simp_all
 trans a b d:=by
  unfold cmpS
  cases h1:lessS a b <;> cases h2:lessS b d <;> simp
  ·split <;> simp
  ·split <;> simp
  ·split <;> simp
  ·rw [lessS_trans h1 h2]; simp
theorem order_cmpV:Order cmpV:=by
 have h2:Order (fun a b:Int × ByteArray=>if cmpI a.1 b.1=0 then cmpS a.2 b.2 else cmpI a.1 b.1):=by
  refine order_or (c:=fun a b:Int × ByteArray=>cmpI a.1 b.1) (d:=fun a b:Int × ByteArray=>cmpS a.2 b.2) (fun a=>(order_cmpI.eq _ _).2 rfl) (fun a b=>order_cmpI.flip _ _) (fun a b e=>order_cmpI.trans _ _ _) (fun a b e h=>?_) (fun a b h=>?_) (fun a b=>order_cmpS.flip _ _) (fun a b e=>order_cmpS.trans _ _ _)
  ·have:=(order_cmpI.eq _ _).1 h; simp [this]
  ·have h:=(order_cmpI.eq _ _).1 h
   rw [order_cmpS.eq]; cases a; cases b; simp at h ⊢; simp [h]
 have h3:Order (fun a b:V=>if cmpI a.kind b.kind=0 then (if cmpI a.n b.n=0 then cmpS a.text b.text else cmpI a.n b.n) else cmpI a.kind b.kind):=by
  refine order_or (c:=fun a b:V=>cmpI a.kind b.kind) (d:=fun a b:V=>if cmpI a.n b.n=0 then cmpS a.text b.text else cmpI a.n b.n) (fun a=>(order_cmpI.eq _ _).2 rfl) (fun a b=>order_cmpI.flip _ _) (fun a b e=>order_cmpI.trans _ _ _) (fun a b e h=>?_) (fun a b h=>?_) (fun a b=>h2.flip (a.n,a.text) (b.n,b.text)) (fun a b e=>h2.trans (a.n,a.text) (b.n,b.text) (e.n,e.text))
  ·have:=(order_cmpI.eq _ _).1 h; simp [this]
  ·have h:=(order_cmpI.eq _ _).1 h
   have:=h2.eq (a.n,a.text) (b.n,b.text)
   dsimp only at this
   rw [this]; cases a; cases b; simp at h ⊢; simp [h]
 have:cmpV=fun a b:V=>if cmpI a.kind b.kind=0 then (if cmpI a.n b.n=0 then cmpS a.text b.text else cmpI a.n b.n) else cmpI a.kind b.kind:=by
  funext a b; simp only [cmpV,ne_eq,ite_not]
 rw [this]; exact h3
theorem order_cmpR:Order cmpR:=by
 have:cmpR=lexL cmpV:=by funext a b; exact cmpR_lex a b
 rw [this]; exact order_lex order_cmpV
end Go.Proofs.YtjbhhddfaohdnaaGreatDoor
end
section
namespace Go.Proofs.YtjbhhddfaohdnaaGreatDoor
open Go Go.Abs Go.Proofs
theorem cut_at {s:UInt8}:∀ {a b A B:List UInt8},s∉a→s∉b→a++s::A=b++s::B→a=b∧A=B
 | [],[],A,B,_,_,h=>⟨rfl,by simpa using h⟩
 | [],y::b,A,B,_,hb,h=>by simp only [List.nil_append,List.cons_append,List.cons.injEq] at h; exact (hb (by rw [h.1]; exact List.mem_cons_self ..)).elim
 | x::a,[],A,B,ha,_,h=>by simp only [List.nil_append,List.cons_append,List.cons.injEq] at h; exact (ha (by rw [h.1]; exact List.mem_cons_self ..)).elim
 | x::a,y::b,A,B,ha,hb,h=>by
  simp only [List.cons_append,List.cons.injEq] at h
  obtain ⟨e1,e2⟩:=cut_at (fun m=>ha (List.mem_cons_of_mem _ m)) (fun m=>hb (List.mem_cons_of_mem _ m)) h.2
  exact ⟨by rw [h.1,e1],e2⟩
def dval (l:List UInt8):Nat:=l.foldl (fun a c=>a * 10+(c.toNat - 48)) 0
theorem digit_nat {u:Nat} (h:u<10):(UInt8.ofNat (48+u)).toNat=48+u:=by
 rw [UInt8.toNat_ofNat']; omega
theorem dval_dec (u:Nat):dval (Lib.decDigits u)=u:=by
 induction u using Nat.strongRecOn with
 | _ u ih=>
  by_cases h:u<10
  ·rw [Lib.decDigits,dif_pos h]
   simp only [dval,List.foldl_cons,List.foldl_nil,digit_nat h]; omega
  ·rw [Lib.decDigits,dif_neg h]
   have:=ih (u / 10) (by omega)
   unfold dval at this ⊢
   rw [List.foldl_append,this]
   simp only [List.foldl_cons,List.foldl_nil,digit_nat (Nat.mod_lt u (by decide:0<10))]; omega
theorem dec_rng (u:Nat):∀ c∈Lib.decDigits u,48≤c.toNat∧c.toNat≤57:=by
 induction u using Nat.strongRecOn with
 | _ u ih=>
  intro c hc
  by_cases h:u<10
  ·rw [Lib.decDigits,dif_pos h] at hc
   rw [List.mem_singleton.1 hc,digit_nat h]; omega
  ·rw [Lib.decDigits,dif_neg h] at hc
   rcases List.mem_append.1 hc with hc | hc
   ·exact ih (u / 10) (by omega) c hc
   ·have:=Nat.mod_lt u (by decide:0<10)
    rw [List.mem_singleton.1 hc,digit_nat this]; omega
theorem dec_ne (u:Nat):Lib.decDigits u≠[]:=by
 by_cases h:u<10
 ·rw [Lib.decDigits,dif_pos h]; simp
 ·rw [Lib.decDigits,dif_neg h]; simp
theorem itoa_rng {n:Int} {c:UInt8} (hc:c∈Lib.itoa n):c.toNat=45∨(48≤c.toNat∧c.toNat≤57):=by
 unfold Lib.itoa at hc
 split at hc
 ·rcases List.mem_cons.1 hc with rfl | hc
  ·exact .inl rfl
  ·exact .inr (dec_rng _ c hc)
 ·exact .inr (dec_rng _ c hc)
theorem itoa_head (n:Int):∃ c l,Lib.itoa n=c::l∧(c.toNat=45∨(48≤c.toNat∧c.toNat≤57)):=by
 cases h:Lib.itoa n with
 | nil=>
  unfold Lib.itoa at h
  split at h
  ·cases h
  ·exact (dec_ne _ h).elim
 | cons c l=>exact ⟨c,l,rfl,itoa_rng (n:=n) (by rw [h]; exact List.mem_cons_self ..)⟩
theorem itoa_inj {n m:Int} (h:Lib.itoa n=Lib.itoa m):n=m:=by
 have hd:∀ u l,Lib.decDigits u=45::l→False:=fun u l e=>by
  have:=dec_rng u 45 (by rw [e]; exact List.mem_cons_self ..)
  have h45:(45:UInt8).toNat=45:=rfl
  omega
 unfold Lib.itoa at h
 split at h
 ·split at h
  ·have:=congrArg dval (List.cons.inj h).2
   rw [dval_dec,dval_dec] at this; omega
  ·exact (hd _ _ h.symm).elim
 ·split at h
  ·exact (hd _ _ h).elim
  ·have:=congrArg dval h
   rw [dval_dec,dval_dec] at this; omega
theorem itoa_no32 (n:Int):(32:UInt8)∉Lib.itoa n:=fun h=>by
 have:=itoa_rng h
 have h32:(32:UInt8).toNat=32:=rfl
 omega
theorem replB_cut {c d:UInt8} {X Y:List UInt8} (h:replB c++X=replB d++Y):c=d∧X=Y:=by
 unfold replB at h
 repeat' split at h
 all_goals (simp only [List.cons_append,List.nil_append,List.cons.injEq] at h)
 all_goals first
  | (obtain ⟨h1,h2⟩:=h; exact ⟨h1,h2⟩)
  | (obtain ⟨_,h1,h2⟩:=h; first | exact ⟨by simp_all,h2⟩ | (exact absurd h1 (by decide)))
  | simp_all
theorem replB_head (c:UInt8):∃ d l,replB c=d::l∧d≠34:=by
 unfold replB
 repeat' split
 ·exact ⟨92,_,rfl,by decide⟩
 ·exact ⟨92,_,rfl,by decide⟩
 ·exact ⟨92,_,rfl,by decide⟩
 ·exact ⟨c,_,rfl,by assumption⟩
theorem replL_cons (c:UInt8) (l:List UInt8):replL (c::l)=replB c++replL l:=rfl
theorem replL_cut:∀ {a b A B:List UInt8},replL a++34::A=replL b++34::B→a=b∧A=B
 | [],[],A,B,h=>⟨rfl,by simpa [replL] using h⟩
 | [],y::b,A,B,h=>by
  obtain ⟨d,l,e,hd⟩:=replB_head y
  rw [replL_cons,e] at h
  simp only [replL,List.flatMap_nil,List.nil_append,List.cons_append,List.append_assoc,List.cons.injEq] at h
  exact (hd h.1.symm).elim
 | x::a,[],A,B,h=>by
  obtain ⟨d,l,e,hd⟩:=replB_head x
  rw [replL_cons,e] at h
  simp only [replL,List.flatMap_nil,List.nil_append,List.cons_append,List.append_assoc,List.cons.injEq] at h
  exact (hd h.1).elim
 | x::a,y::b,A,B,h=>by
  rw [replL_cons,replL_cons,List.append_assoc,List.append_assoc] at h
  obtain ⟨e1,e2⟩:=replB_cut h
  obtain ⟨e3,e4⟩:=replL_cut e2
  exact ⟨by rw [e1,e3],e4⟩
theorem text_empty {s:ByteArray} (h:s.size=0):s=ByteArray.empty:=by
 obtain ⟨⟨l⟩⟩:=s
 have:l=[]:=List.length_eq_zero_iff.1 h
 subst this; rfl
inductive VForm:V→List UInt8→Prop
 | null:VForm ⟨0,0,ByteArray.empty⟩ [110,117,108,108]
 | text (t:ByteArray):VForm ⟨1,0,t⟩ (34::(replL (bytes t)++[34]))
 | num (n:Int):VForm ⟨2,n,ByteArray.empty⟩ (Lib.itoa n)
 | date (n:Int):VForm ⟨3,n,ByteArray.empty⟩ (64::Lib.itoa n)
 | no:VForm ⟨4,0,ByteArray.empty⟩ [102,97,108,115,101]
 | yes:VForm ⟨4,1,ByteArray.empty⟩ [116,114,117,101]
theorem fmt_true:Lib.formatBool true=[116,114,117,101]:=by decide +kernel
theorem fmt_false:Lib.formatBool false=[102,97,108,115,101]:=by decide +kernel
theorem vform {v:V} (h:validV v=true):VForm v (bytes (textV v)):=by
 unfold textV
 rw [h]
 simp only [Bool.not_true,Bool.false_eq_true,if_false]
 obtain ⟨k,n,t⟩:=v
 unfold validV inR at h
 simp only at h ⊢
 by_cases h1:k=1
 ·subst h1
  simp at h
  have:n=0:=by omega
  subst this
  simp only [if_true,quoteB,bytes]
  exact .text t
 rw [if_neg h1]
 by_cases ht:t.size=0
 ·obtain rfl:=text_empty ht
  rw [if_neg (by simp [ht])] at h
  by_cases h2:k=2
  ·subst h2; simp only [if_true,bytes]; exact .num n
  by_cases h3:k=3
  ·subst h3; simp only [bytes]; exact .date n
  by_cases h4:k=4
  ·subst h4
   simp at h
   have:n=0∨n=1:=by omega
   rcases this with rfl | rfl
   ·simp only [bytes]
    have e:((0:Int) == 1)=false:=rfl
    rw [e,fmt_false]; exact .no
   ·simp only [bytes]
    have e:((1:Int) == 1)=true:=rfl
    rw [e,fmt_true]; exact .yes
  ·rw [if_neg h2,if_neg h3,if_neg h4]
   by_cases h0:k=0
   ·subst h0
    simp at h
    have:n=0:=by omega
    subst this
    exact .null
   ·simp [h0,h1,h2,h3,h4] at h
 ·rw [if_pos ⟨h1,ht⟩] at h; cases h
theorem form_cut {u v:V} {a b A B:List UInt8} (hu:VForm u a) (hv:VForm v b) (h:a++32::A=b++32::B):u=v∧A=B:=by
 have hi:∀ {n:Int} {A:List UInt8} {d:UInt8} {l:List UInt8},d.toNat≠45→¬ (48≤d.toNat∧d.toNat≤57)→Lib.itoa n++A=d::l→False:=by
  intro n A d l h1 h2 h3
  obtain ⟨c,m,e,hc⟩:=itoa_head n
  rw [e] at h3
  simp only [List.cons_append,List.cons.injEq] at h3
  rw [h3.1] at hc; omega
 cases hu <;> cases hv
 all_goals try simp only [List.cons_append,List.nil_append,List.append_assoc,List.cons.injEq] at h
 all_goals first
  | exact (hi (by decide) (by decide) h).elim
  | exact (hi (by decide) (by decide) h.symm).elim
  | (exact absurd h.1 (by decide))
  | skip
 ·exact ⟨rfl,by simpa using h⟩
 ·obtain ⟨e1,e2⟩:=replL_cut h.2
  refine ⟨?_,by simpa using e2⟩
  rw [bytes_inj e1]
 ·obtain ⟨e1,e2⟩:=cut_at (itoa_no32 _) (itoa_no32 _) h
  exact ⟨by rw [itoa_inj e1],e2⟩
 ·obtain ⟨e1,e2⟩:=cut_at (itoa_no32 _) (itoa_no32 _) h.2
  exact ⟨by rw [itoa_inj e1],e2⟩
 ·exact ⟨rfl,by simpa using h⟩
 ·exact ⟨rfl,by simpa using h⟩
theorem rowN_inj:∀ {a b:List V},validR a→validR b→rowN a=rowN b→a=b
 | [],[],_,_,_=>rfl
 | [],v::b,_,_,h=>by simp [rowN] at h
 | v::a,[],_,_,h=>by simp [rowN] at h
 | v::a,u::b,ha,hb,h=>by
  have e:∀ (v:V) (l:List V),rowN (v::l)=bytes (textV v)++32::rowN l:=fun v l=>by simp [rowN]
  rw [e,e] at h
  obtain ⟨e1,e2⟩:=form_cut (vform (ha v (List.mem_cons_self ..))) (vform (hb u (List.mem_cons_self ..))) h
  rw [e1,rowN_inj (fun x hx=>ha x (List.mem_cons_of_mem _ hx)) (fun x hx=>hb x (List.mem_cons_of_mem _ hx)) e2]
theorem rowB_inj {a b:List V} (ha:validR a) (hb:validR b) (h:rowB a=rowB b):a=b:=by
 refine rowN_inj ha hb ?_
 have:=congrArg bytes h
 simpa [rowB,bytes] using this
theorem Adds.inj {n c:Nat} {L:AddL} (h:Adds n c L):NameInj L:=fun x hx y hy e=>rowB_inj (h.valid x hx) (h.valid y hy) e
end Go.Proofs.YtjbhhddfaohdnaaGreatDoor
end
