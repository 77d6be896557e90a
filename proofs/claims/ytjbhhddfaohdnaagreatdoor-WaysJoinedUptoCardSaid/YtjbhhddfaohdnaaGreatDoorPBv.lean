/- A part of the proof: EvP, EvQ, Pv, Bv. -/
import Derived.Test.YtjbhhddfaohdnaaGreatDoorPFrv
import Derived.Test.YtjbhhddfaohdnaaGreatDoorPPw
set_option linter.all false
set_option linter.deprecated false
section
namespace Go.Abs
structure Con (P:Program) where
 f:FuncId
 args:List SV
 rs:List PD
 ok:FnC P f args rs
def Con.of {P:Program} {f:FuncId} {args:List SV} {rs:List PD} (h:FnC P f args rs):Con P:=⟨f,args,rs,h⟩
theorem con_f {P:Program} {f:FuncId} {args:List SV} {rs:List PD} (h:FnC P f args rs):(Con.of h).f=f:=rfl
theorem con_args {P:Program} {f:FuncId} {args:List SV} {rs:List PD} (h:FnC P f args rs):(Con.of h).args=args:=rfl
theorem con_rs {P:Program} {f:FuncId} {args:List SV} {rs:List PD} (h:FnC P f args rs):(Con.of h).rs=rs:=rfl
def plainA:List SV→Bool
 | []=>true
 | .pd _::l=>plainA l
 | .ref _ _::l=>plainA l
 | _=>false
theorem plainA_ok {P:Program} {var:Nat→Option (List SV)} {row:Nat→Option Row}:∀ {l:List SV},plainA l=true→CoL P var row l l false
 | [],_=>.nil
 | .pd d::l,h=>.cons (b:=false) (.pd d) (plainA_ok (l:=l) h)
 | .ref d o::l,h=>.cons (b:=false) (.ref d o) (plainA_ok (l:=l) h)
def ev2 (C:Cx) (cs:List (Nat × Con C.P)) (all:Array Oper) (o:Oper) (l:List Oper) (k:List KI) (s:St) (K:St→Prop):Prop:=
 match o.op with
 | .call c=>match c.callee with
  | .value (.func f)=>match o.dst with
   | some t=>match lk t cs with
    | some q=>q.f=f∧q.args=c.args.toList.map (evO s)∧plainA q.args=true∧t<s.n∧K (s.set t (retSV q.rs))
    | none=>ev1 C all o l k s K
   | none=>ev1 C all o l k s K
  | _=>ev1 C all o l k s K
 | _=>ev1 C all o l k s K
theorem ev2_ok {C:Cx} {cs:List (Nat × Con C.P)} {all:Array Oper} {o:Oper} {l:List Oper} {k:List KI} {s:St} {K:St→Prop} (hg:o.guard=none) (hK:∀ s',K s'→R C (.ops all l::k) s') (h:ev2 C cs all o l k s K):R C (.ops all (o::l)::k) s:=by
 unfold ev2 at h
 split at h
 ·rename_i c hc
  split at h
  ·rename_i f hf
   split at h
   ·rename_i t ht
    split at h
    ·rename_i q hq
     obtain ⟨rfl,h2,h3,h4,h5⟩:=h
     refine R.y hg (fun t' h'=>by rw [ht] at h'; cases h'; exact h4) (.call q.f c.args c.argTypes q.args q.rs false (by rw [hc,← hf]) (by rw [h2] at h3; rw [h2]; exact plainA_ok h3) q.ok (by simp)) ?_
     rw [ht]; exact hK _ h5
    ·exact ev1_ok hg hK h
   ·exact ev1_ok hg hK h
  ·exact ev1_ok hg hK h
 ·exact ev1_ok hg hK h
def evC (C:Cx) (cs:List (Nat × Con C.P)):Nat→List KI→St→Prop
 | 0,k,s=>R C k s
 | _+1,[],s=>R C [] s
 | n+1,.inBlock _::k,s=>evC C cs n k s
 | _+1,.loopEnd J::k,s=>R C (.loopEnd J::k) s
 | n+1,.ops _ []::k,s=>evC C cs n k s
 | n+1,.ops all (o::l)::k,s=>match o.guard with
  | none=>ev2 C cs all o l k s fun s'=>evC C cs n (.ops all l::k) s'
  | some (j,want)=>match (all[j]?).bind (·.dst) with
   | some t=>match s.get t with
    | .pd (.raw (.bool c))=>match ay C.P (evG s) s.var s.row o.op with
     | some (vc,v)=>((c == want)=true→vc)∧gok (c == want) (o.op.operands.toList.map (evO s))∧dstP s o∧evC C cs n (.ops all l::k) (s.put o.dst (.gd (c == want) v.unbox))
     | none=>R C (.ops all (o::l)::k) s
    | _=>R C (.ops all (o::l)::k) s
   | none=>R C (.ops all (o::l)::k) s
 | n+1,.code c::k,s=>match c with
  | .seq x y=>evC C cs n (.code x :: .code y::k) s
  | .skip=>evC C cs n k s
  | .block id c=>evC C cs n (.code c :: .inBlock id::k) s
  | .exit id=>match exitK id k with
   | some k'=>evC C cs n k' s
   | none=>R C (.code (.exit id)::k) s
  | .cond (.tmp t) x y=>match s.get t with
   | .pd (.raw (.bool b))=>(b=true→R C (.code x::k) s)∧(b=false→R C (.code y::k) s)
   | _=>R C (.code (.cond (.tmp t) x y)::k) s
  | .region _ ops false=>evC C cs n (.ops ops ops.toList::k) s
  | c=>R C (.code c::k) s
theorem evC_ok {C:Cx} {cs:List (Nat × Con C.P)}:∀ (n:Nat) (k:List KI) (s:St),evC C cs n k s→R C k s
 | 0,k,s,h=>h
 | _+1,[],s,h=>h
 | n+1,.inBlock _::k,s,h=>R.inBlock (evC_ok n k s h)
 | _+1,.loopEnd J::k,s,h=>h
 | n+1,.ops _ []::k,s,h=>R.nil (evC_ok n k s h)
 | n+1,.ops all (o::l)::k,s,h=>by
  simp only [evC] at h
  split at h
  ·rename_i hg
   exact ev2_ok hg (fun s' h'=>evC_ok n _ s' h') h
  ·rename_i j want hg
   split at h
   ·rename_i t hj
    split at h
    ·rename_i c hc
     split at h
     ·rename_i vc v ha
      obtain ⟨h1,h2,h3,h4⟩:=h
      exact R.yg hg hj hc (dstP_ok h3) (fun hw=>⟨h2,.op vc v ha (h1 hw)⟩) (evC_ok n _ _ h4)
     ·exact h
    ·exact h
   ·exact h
 | n+1,.code c::k,s,h=>by
  unfold evC at h
  split at h
  ·exact R.seq (evC_ok n _ s h)
  ·exact R.skip (evC_ok n _ s h)
  ·exact R.block (evC_ok n _ s h)
  ·split at h
   ·rename_i k' he; exact R.exit he (evC_ok n _ s h)
   ·exact h
  ·split at h
   ·rename_i b hb; exact R.cond hb h.1 h.2
   ·exact h
  ·exact R.region (evC_ok n _ s h)
  ·exact h
def evP (P:Program) (fn:Func) (w:World) (G:Pub) (rs:List PD) (cs:List (Nat × Con P)):Nat→List KI→St→Prop
 | 0,k,s=>R (Cx.fn P fn w G rs) k s
 | _+1,[],s=>match resD P s fn.results.toList with
  | some (vc,r)=>vc∧r=rs
  | none=>R (Cx.fn P fn w G rs) [] s
 | n+1,.inBlock _::k,s=>evP P fn w G rs cs n k s
 | _+1,.loopEnd J::k,s=>R (Cx.fn P fn w G rs) (.loopEnd J::k) s
 | n+1,.ops _ []::k,s=>evP P fn w G rs cs n k s
 | n+1,.ops all (o::l)::k,s=>match o.guard with
  | none=>ev2 (Cx.fn P fn w G rs) cs all o l k s fun s'=>evP P fn w G rs cs n (.ops all l::k) s'
  | some (j,want)=>match (all[j]?).bind (·.dst) with
   | some t=>match s.get t with
    | .pd (.raw (.bool c))=>match ay P (evG s) s.var s.row o.op with
     | some (vc,v)=>((c == want)=true→vc)∧gok (c == want) (o.op.operands.toList.map (evO s))∧dstP s o∧evP P fn w G rs cs n (.ops all l::k) (s.put o.dst (.gd (c == want) v.unbox))
     | none=>R (Cx.fn P fn w G rs) (.ops all (o::l)::k) s
    | _=>R (Cx.fn P fn w G rs) (.ops all (o::l)::k) s
   | none=>R (Cx.fn P fn w G rs) (.ops all (o::l)::k) s
 | n+1,.code c::k,s=>match c with
  | .seq x y=>evP P fn w G rs cs n (.code x :: .code y::k) s
  | .skip=>evP P fn w G rs cs n k s
  | .block id c=>evP P fn w G rs cs n (.code c :: .inBlock id::k) s
  | .exit id=>match exitK id k with
   | some k'=>evP P fn w G rs cs n k' s
   | none=>R (Cx.fn P fn w G rs) (.code (.exit id)::k) s
  | .ret=>match resD P s fn.results.toList with
   | some (vc,r)=>vc∧r=rs
   | none=>R (Cx.fn P fn w G rs) (.code .ret::k) s
  | .cond (.tmp t) x y=>match s.get t with
   | .pd (.raw (.bool b))=>(b=true→evP P fn w G rs cs n (.code x::k) s)∧(b=false→evP P fn w G rs cs n (.code y::k) s)
   | _=>R (Cx.fn P fn w G rs) (.code (.cond (.tmp t) x y)::k) s
  | .region _ ops false=>evP P fn w G rs cs n (.ops ops ops.toList::k) s
  | c=>R (Cx.fn P fn w G rs) (.code c::k) s
theorem evP_ok {P:Program} {fn:Func} {w:World} {G:Pub} {rs:List PD} (cs:List (Nat × Con P)):∀ (n:Nat) (k:List KI) (s:St),evP P fn w G rs cs n k s→R (Cx.fn P fn w G rs) k s
 | 0,k,s,h=>h
 | _+1,[],s,h=>by
  unfold evP at h
  split at h
  ·rename_i vc r hr; obtain ⟨hv,rfl⟩:=h; exact R.overC hr hv
  ·exact h
 | n+1,.inBlock _::k,s,h=>R.inBlock (evP_ok cs n k s h)
 | _+1,.loopEnd J::k,s,h=>h
 | n+1,.ops _ []::k,s,h=>R.nil (evP_ok cs n k s h)
 | n+1,.ops all (o::l)::k,s,h=>by
  simp only [evP] at h
  split at h
  ·rename_i hg
   exact ev2_ok hg (fun s' h'=>evP_ok cs n _ s' h') h
  ·rename_i j want hg
   split at h
   ·rename_i t hj
    split at h
    ·rename_i c hc
     split at h
     ·rename_i vc v ha
      obtain ⟨h1,h2,h3,h4⟩:=h
      exact R.yg hg hj hc (dstP_ok h3) (fun hw=>⟨h2,.op vc v ha (h1 hw)⟩) (evP_ok cs n _ _ h4)
     ·exact h
    ·exact h
   ·exact h
 | n+1,.code c::k,s,h=>by
  unfold evP at h
  split at h
  ·exact R.seq (evP_ok cs n _ s h)
  ·exact R.skip (evP_ok cs n _ s h)
  ·exact R.block (evP_ok cs n _ s h)
  ·split at h
   ·rename_i k' he; exact R.exit he (evP_ok cs n _ s h)
   ·exact h
  ·split at h
   ·rename_i vc r hr; obtain ⟨hv,rfl⟩:=h; exact R.retC hr hv
   ·exact h
  ·split at h
   ·rename_i b hb; exact R.cond hb (fun e=>evP_ok cs n _ s (h.1 e)) (fun e=>evP_ok cs n _ s (h.2 e))
   ·exact h
  ·exact R.region (evP_ok cs n _ s h)
  ·exact h
theorem evC8 {C:Cx} {k:List KI} {s:St} (h:evC C [] 80 k s):R C k s:=evC_ok 80 k s h
attribute [go_sem] evC ev2 con_f con_args con_rs plainA
end Go.Abs
end
section
namespace Go.Abs
theorem R.known {C:Cx} {k:List KI} {s:St} {t:Nat} {c b:Bool} (hc:s.get t = .pd (.raw (.bool c))) (e:c=b) (h:R C k (s.set t (.pd (.raw (.bool b))))):R C k s:=by
 subst e
 refine R.weak (s':=s.set t (.pd (.raw (.bool c)))) ⟨rfl,fun j=>?_,fun t cs h=>⟨cs,h,rfl,fun _ _=>.same _⟩,fun _ _ h=>h,fun _ _ h=>h,fun _=>.same _⟩ h
 rw [St.get_set]
 split
 ·rename_i e; subst e; rw [hc]; exact .same _
 ·exact .same _
def evQ (C:Cx) (cs:List (Nat × Con C.P)) (rt:St→Prop):Nat→List KI→St→Prop
 | 0,k,s=>R C k s
 | _+1,[],s=>rt s
 | n+1,.inBlock _::k,s=>evQ C cs rt n k s
 | _+1,.loopEnd J::k,s=>R C (.loopEnd J::k) s
 | n+1,.ops _ []::k,s=>evQ C cs rt n k s
 | n+1,.ops all (o::l)::k,s=>match o.guard with
  | none=>ev2 C cs all o l k s fun s'=>evQ C cs rt n (.ops all l::k) s'
  | some (j,want)=>match (all[j]?).bind (·.dst) with
   | some t=>match s.get t with
    | .pd (.raw (.bool c))=>if c=want then ev2 C cs all { o with guard:=none } l k (s.set t (.pd (.raw (.bool want)))) (fun s'=>evQ C cs rt n (.ops all l::k) s')
      else dstP s o∧evQ C cs rt n (.ops all l::k) ((s.set t (.pd (.raw (.bool !want)))).put o.dst (.tpl []))
    | .tpl []=>dstP s o∧evQ C cs rt n (.ops all l::k) (s.put o.dst (.tpl []))
    | _=>R C (.ops all (o::l)::k) s
   | none=>R C (.ops all (o::l)::k) s
 | n+1,.code c::k,s=>match c with
  | .seq x y=>evQ C cs rt n (.code x :: .code y::k) s
  | .skip=>evQ C cs rt n k s
  | .block id c=>evQ C cs rt n (.code c :: .inBlock id::k) s
  | .exit id=>match exitK id k with
   | some k'=>evQ C cs rt n k' s
   | none=>R C (.code (.exit id)::k) s
  | .ret=>rt s
  | .cond (.tmp t) x y=>match s.get t with
   | .pd (.raw (.bool b))=>if b=true then evQ C cs rt n (.code x::k) (s.set t (.pd (.raw (.bool true)))) else evQ C cs rt n (.code y::k) (s.set t (.pd (.raw (.bool false))))
   | _=>R C (.code (.cond (.tmp t) x y)::k) s
  | .region _ ops false=>evQ C cs rt n (.ops ops ops.toList::k) s
  | c=>R C (.code c::k) s
theorem evQ_ok {C:Cx} {cs:List (Nat × Con C.P)} {rt:St→Prop} (hr:∀ k s,rt s→R C (.code .ret::k) s) (ho:∀ s,rt s→R C [] s):∀ (n:Nat) (k:List KI) (s:St),evQ C cs rt n k s→R C k s
 | 0,k,s,h=>h
 | _+1,[],s,h=>ho s h
 | n+1,.inBlock _::k,s,h=>R.inBlock (evQ_ok hr ho n k s h)
 | _+1,.loopEnd J::k,s,h=>h
 | n+1,.ops _ []::k,s,h=>R.nil (evQ_ok hr ho n k s h)
 | n+1,.ops all (o::l)::k,s,h=>by
  simp only [evQ] at h
  split at h
  ·rename_i hg
   exact ev2_ok hg (fun s' h'=>evQ_ok hr ho n _ s' h') h
  ·rename_i j want hg
   split at h
   ·rename_i t hj
    split at h
    ·rename_i c hc
     split at h
     ·rename_i e
      refine R.known hc e ?_
      have hc':(s.set t (.pd (.raw (.bool want)))).get t = .pd (.raw (.bool want)):=by rw [St.get_set,if_pos rfl]
      exact R.gyes hg hj hc' (by simp) (ev2_ok rfl (fun s' h'=>evQ_ok hr ho n _ s' h') h)
     ·rename_i e
      have e2:c = !want:=by cases c <;> cases want <;> simp_all
      refine R.known hc e2 ?_
      have hc':(s.set t (.pd (.raw (.bool !want)))).get t = .pd (.raw (.bool !want)):=by rw [St.get_set,if_pos rfl]
      exact R.gno hg hj hc' (by cases want <;> rfl) (dstP_ok (s:=s.set t (.pd (.raw (.bool !want)))) h.1) (evQ_ok hr ho n _ _ h.2)
    ·rename_i hc
     exact R.gskip hg hj hc (dstP_ok h.1) (evQ_ok hr ho n _ _ h.2)
    ·exact h
   ·exact h
 | n+1,.code c::k,s,h=>by
  unfold evQ at h
  split at h
  ·exact R.seq (evQ_ok hr ho n _ s h)
  ·exact R.skip (evQ_ok hr ho n _ s h)
  ·exact R.block (evQ_ok hr ho n _ s h)
  ·split at h
   ·rename_i k' he; exact R.exit he (evQ_ok hr ho n _ s h)
   ·exact h
  ·exact hr k s h
  ·rename_i t x y
   split at h
   ·rename_i b hb
    refine R.cond hb (fun e=>?_) (fun e=>?_)
    ·rw [if_pos e] at h; exact R.known hb e (evQ_ok hr ho n _ _ h)
    ·rw [if_neg (by simp [e])] at h; exact R.known hb e (evQ_ok hr ho n _ _ h)
   ·exact h
  ·exact R.region (evQ_ok hr ho n _ s h)
  ·exact h
def rtC (P:Program) (fn:Func) (rs:List PD) (s:St):Prop:=match resD P s fn.results.toList with
 | some (vc,r)=>vc∧r=rs
 | none=>False
theorem evQC_ok {P:Program} {fn:Func} {w:World} {G:Pub} {rs:List PD} (cs:List (Nat × Con P)) (n:Nat) (k:List KI) (s:St) (h:evQ (Cx.fn P fn w G rs) cs (rtC P fn rs) n k s):R (Cx.fn P fn w G rs) k s:=by
 refine evQ_ok (fun k s h=>?_) (fun s h=>?_) n k s h
 all_goals
  unfold rtC at h
  split at h
  ·rename_i vc r hr; obtain ⟨hv,rfl⟩:=h
   first | exact R.retC hr hv | exact R.overC hr hv
  ·exact h.elim
theorem evQW_ok {P:Program} {fn:Func} {w:World} {G:Pub} {rs:List PD} (cs:List (Nat × Con P)) (n:Nat) (k:List KI) (s:St) (h:evQ (Cx.fnW P fn w G rs) cs (rtC P fn rs) n k s):R (Cx.fnW P fn w G rs) k s:=by
 refine evQ_ok (fun k s h=>?_) (fun s h=>?_) n k s h
 all_goals
  unfold rtC at h
  split at h
  ·rename_i vc r hr; obtain ⟨hv,rfl⟩:=h
   first | exact R.retW hr hv | exact R.overW hr hv
  ·exact h.elim
end Go.Abs
end
section
namespace Go.Proofs.YtjbhhddfaohdnaaGreatDoor
structure V where
 kind:Int
 n:Int
 text:ByteArray
deriving DecidableEq
def V.zero:V:=⟨0,0,ByteArray.empty⟩
structure Attr where
 name:ByteArray
 kind:Int
 was:List ByteArray
 dflt:V
deriving DecidableEq
structure Tbl where
 name:ByteArray
 attrs:List Attr
 key:List Int
structure Side where
 var:Int
 col:Int
 val:V
structure Tst where
 left:Side
 op:Int
 right:Side
 add:Int
structure Fct where
 table:Int
 entity:Int
 variant:Int
 row:List V
 cost:Int
 src:List Int
inductive Plan where
 | mk (kind table:Int) (kids:List Plan) (tests:List Tst) (cols:List Int) (col agg:Int) (attrs:List Attr)
structure Ans where
 row:List V
 ways:List W
def inR (lo hi n:Int):Bool:=decide (lo≤n)&&decide (n≤hi)
def validV (v:V):Bool:=
 if v.kind≠1∧v.text.size≠0 then false
 else if v.kind=0 then inR 0 0 v.n else if v.kind=1 then decide (v.text.size≤200)&&inR 0 0 v.n
 else if v.kind=2 then inR (-1000000000) 1000000000 v.n
 else if v.kind=3 then inR 0 73048 v.n
 else if v.kind=4 then inR 0 1 v.n else false
def lessS (a b:ByteArray):Bool:=decide (a.data.toList<b.data.toList)
def cmpS (a b:ByteArray):Int:=if lessS a b then -1 else if lessS b a then 1 else 0
def cmpV (a b:V):Int:=if cmpI a.kind b.kind≠0 then cmpI a.kind b.kind else if cmpI a.n b.n≠0 then cmpI a.n b.n else cmpS a.text b.text
def cmpR:List V→List V→Int
 | [],[]=>0
 | [],_::_=>-1
 | _::_,[]=>1
 | x::l,y::m=>if cmpV x y≠0 then cmpV x y else cmpR l m
end Go.Proofs.YtjbhhddfaohdnaaGreatDoor
end
section
namespace Go.Proofs.YtjbhhddfaohdnaaGreatDoor
open Go Go.Abs
abbrev S (b:ByteArray):PD:=.raw (.string b)
abbrev val (v:V):PD:=.tup [I v.kind,I v.n,S v.text]
abbrev vals (l:List V):PD:=.list 3 (l.map val)
abbrev valss (l:List (List V)):PD:=.list 1 (l.map vals)
abbrev strs (l:List ByteArray):PD:=.list 1 (l.map S)
abbrev attr (a:Attr):PD:=.tup [S a.name,I a.kind,strs a.was,I a.dflt.kind,I a.dflt.n,S a.dflt.text]
abbrev attrs (l:List Attr):PD:=.list 6 (l.map attr)
abbrev tbl (t:Tbl):PD:=.tup [S t.name,attrs t.attrs,ints t.key]
abbrev tbls (l:List Tbl):PD:=.list 3 (l.map tbl)
abbrev schema (l:List Tbl):PD:=.tup [tbls l]
abbrev side (x:Side):PD:=.tup [I x.var,I x.col,I x.val.kind,I x.val.n,S x.val.text]
abbrev tst (t:Tst):PD:=.tup [I t.left.var,I t.left.col,I t.left.val.kind,I t.left.val.n,S t.left.val.text,I t.op,I t.right.var,I t.right.col,I t.right.val.kind,I t.right.val.n,S t.right.val.text,I t.add]
abbrev tsts (l:List Tst):PD:=.list 12 (l.map tst)
abbrev fct (f:Fct):PD:=.tup [I f.table,I f.entity,I f.variant,vals f.row,I f.cost,ints f.src]
abbrev fcts (l:List Fct):PD:=.list 6 (l.map fct)
mutual
def planL:List Plan→List PD
 | []=>[]
 | p::l=>plan p::planL l
def plan:Plan→PD
 | .mk k t kids tests cols col agg ats=>.tup [I k,I t,.list 8 (planL kids),tsts tests,ints cols,I col,I agg,attrs ats]
end
theorem planL_eq (l:List Plan):planL l=l.map plan:=by
 induction l with
 | nil=>rfl
 | cons p l ih=>rw [planL,ih]; rfl
abbrev plans (l:List Plan):PD:=.list 8 (l.map plan)
abbrev ans (a:Ans):PD:=.tup [vals a.row,ways a.ways]
abbrev anss (l:List Ans):PD:=.list 2 (l.map ans)
end Go.Proofs.YtjbhhddfaohdnaaGreatDoor
end
