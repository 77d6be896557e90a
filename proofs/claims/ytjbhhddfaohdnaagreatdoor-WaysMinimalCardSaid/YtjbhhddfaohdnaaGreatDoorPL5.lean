/- A part of the proof: EvP, EvQ, Drw, L5. -/
import Derived.Test.YtjbhhddfaohdnaaGreatDoorPFrv
import Derived.Test.YtjbhhddfaohdnaaGreatDoorPEv
import Derived.Test.YtjbhhddfaohdnaaGreatDoorPT10
set_option linter.all false
set_option linter.deprecated false
section
namespace Go.Abs
structure Con (P:Program) where
 f:FuncId
 args:List SV
 rs:List PD
 ok:FnC P f args rs
def Con.of {P:Program} {f:FuncId} {args:List SV} {rs:List PD} (h:FnC P f args rs):Con P:=⟨f,args,rs,h⟩
theorem con_f {P:Program} {f:FuncId} {args:List SV} {rs:List PD} (h:FnC P f args rs):(Con.of h).f = f:=rfl
theorem con_args {P:Program} {f:FuncId} {args:List SV} {rs:List PD} (h:FnC P f args rs):(Con.of h).args = args:=rfl
theorem con_rs {P:Program} {f:FuncId} {args:List SV} {rs:List PD} (h:FnC P f args rs):(Con.of h).rs = rs:=rfl
def plainA:List SV→Bool
 | []=>true
 | .pd _ :: l=>plainA l
 | .ref _ _ :: l=>plainA l
 | _=>false
theorem plainA_ok {P:Program} {var:Nat→Option (List SV)} {row:Nat→Option Row}:∀ {l:List SV},plainA l = true→CoL P var row l l false
 | [],_=>.nil
 | .pd d :: l,h=>.cons (b:=false) (.pd d) (plainA_ok (l:=l) h)
 | .ref d o :: l,h=>.cons (b:=false) (.ref d o) (plainA_ok (l:=l) h)
def ev2 (C:Cx) (cs:List (Nat × Con C.P)) (all:Array Oper) (o:Oper) (l:List Oper) (k:List KI) (s:St) (K:St→Prop):Prop:=
 match o.op with
 | .call c=>match c.callee with
  | .value (.func f)=>match o.dst with
   | some t=>match lk t cs with
    | some q=>q.f = f∧q.args = c.args.toList.map (evO s)∧plainA q.args = true∧t < s.n∧K (s.set t (retSV q.rs))
    | none=>ev1 C all o l k s K
   | none=>ev1 C all o l k s K
  | _=>ev1 C all o l k s K
 | _=>ev1 C all o l k s K
theorem ev2_ok {C:Cx} {cs:List (Nat × Con C.P)} {all:Array Oper} {o:Oper} {l:List Oper} {k:List KI} {s:St} {K:St→Prop} (hg:o.guard = none) (hK:∀ s',K s'→R C (.ops all l :: k) s') (h:ev2 C cs all o l k s K):R C (.ops all (o :: l) :: k) s:=by
 unfold ev2 at h
 split at h
 ·rename_i c hc
  split at h
  ·rename_i f hf
   split at h
   ·rename_i t ht
    split at h
    ·rename_i q hq
     obtain ⟨rfl,h2,h3,h4,h5⟩:=h
     refine R.y hg (fun t' h'=>by rw [ht] at h'; cases h'; exact h4) (.call q.f c.args c.argTypes q.args q.rs false (by rw [hc,← hf]) (by rw [h2] at h3; rw [h2]; exact plainA_ok h3) q.ok (by simp)) ?_
     rw [ht]; exact hK _ h5
    ·exact ev1_ok hg hK h
   ·exact ev1_ok hg hK h
  ·exact ev1_ok hg hK h
 ·exact ev1_ok hg hK h
def evC (C:Cx) (cs:List (Nat × Con C.P)):Nat→List KI→St→Prop
 | 0,k,s=>R C k s
 | _ + 1,[],s=>R C [] s
 | n + 1,.inBlock _ :: k,s=>evC C cs n k s
 | _ + 1,.loopEnd J :: k,s=>R C (.loopEnd J :: k) s
 | n + 1,.ops _ [] :: k,s=>evC C cs n k s
 | n + 1,.ops all (o :: l) :: k,s=>match o.guard with
  | none=>ev2 C cs all o l k s fun s'=>evC C cs n (.ops all l :: k) s'
  | some (j,want)=>match (all[j]?).bind (·.dst) with
   | some t=>match s.get t with
    | .pd (.raw (.bool c))=>match ay C.P (evG s) s.var s.row o.op with
     | some (vc,v)=>((c == want) = true→vc)∧gok (c == want) (o.op.operands.toList.map (evO s))∧dstP s o∧evC C cs n (.ops all l :: k) (s.put o.dst (.gd (c == want) v.unbox))
     | none=>R C (.ops all (o :: l) :: k) s
    | _=>R C (.ops all (o :: l) :: k) s
   | none=>R C (.ops all (o :: l) :: k) s
 | n + 1,.code c :: k,s=>match c with
  | .seq x y=>evC C cs n (.code x :: .code y :: k) s
  | .skip=>evC C cs n k s
  | .block id c=>evC C cs n (.code c :: .inBlock id :: k) s
  | .exit id=>match exitK id k with
   | some k'=>evC C cs n k' s
   | none=>R C (.code (.exit id) :: k) s
  | .cond (.tmp t) x y=>match s.get t with
   | .pd (.raw (.bool b))=>(b = true→R C (.code x :: k) s)∧(b = false→R C (.code y :: k) s)
   | _=>R C (.code (.cond (.tmp t) x y) :: k) s
  | .region _ ops false=>evC C cs n (.ops ops ops.toList :: k) s
  | c=>R C (.code c :: k) s
theorem evC_ok {C:Cx} {cs:List (Nat × Con C.P)}:∀ (n:Nat) (k:List KI) (s:St),evC C cs n k s→R C k s
 | 0,k,s,h=>h
 | _ + 1,[],s,h=>h
 | n + 1,.inBlock _ :: k,s,h=>R.inBlock (evC_ok n k s h)
 | _ + 1,.loopEnd J :: k,s,h=>h
 | n + 1,.ops _ [] :: k,s,h=>R.nil (evC_ok n k s h)
 | n + 1,.ops all (o :: l) :: k,s,h=>by
  simp only [evC] at h
  split at h
  ·rename_i hg
   exact ev2_ok hg (fun s' h'=>evC_ok n _ s' h') h
  ·rename_i j want hg
   split at h
   ·rename_i t hj
    split at h
    ·rename_i c hc
     split at h
     ·rename_i vc v ha
      obtain ⟨h1,h2,h3,h4⟩:=h
      exact R.yg hg hj hc (dstP_ok h3) (fun hw=>⟨h2,.op vc v ha (h1 hw)⟩) (evC_ok n _ _ h4)
     ·exact h
    ·exact h
   ·exact h
 | n + 1,.code c :: k,s,h=>by
  unfold evC at h
  split at h
  ·exact R.seq (evC_ok n _ s h)
  ·exact R.skip (evC_ok n _ s h)
  ·exact R.block (evC_ok n _ s h)
  ·split at h
   ·rename_i k' he; exact R.exit he (evC_ok n _ s h)
   ·exact h
  ·split at h
   ·rename_i b hb; exact R.cond hb h.1 h.2
   ·exact h
  ·exact R.region (evC_ok n _ s h)
  ·exact h
def evP (P:Program) (fn:Func) (w:World) (G:Pub) (rs:List PD) (cs:List (Nat × Con P)):Nat→List KI→St→Prop
 | 0,k,s=>R (Cx.fn P fn w G rs) k s
 | _ + 1,[],s=>match resD P s fn.results.toList with
  | some (vc,r)=>vc∧r = rs
  | none=>R (Cx.fn P fn w G rs) [] s
 | n + 1,.inBlock _ :: k,s=>evP P fn w G rs cs n k s
 | _ + 1,.loopEnd J :: k,s=>R (Cx.fn P fn w G rs) (.loopEnd J :: k) s
 | n + 1,.ops _ [] :: k,s=>evP P fn w G rs cs n k s
 | n + 1,.ops all (o :: l) :: k,s=>match o.guard with
  | none=>ev2 (Cx.fn P fn w G rs) cs all o l k s fun s'=>evP P fn w G rs cs n (.ops all l :: k) s'
  | some (j,want)=>match (all[j]?).bind (·.dst) with
   | some t=>match s.get t with
    | .pd (.raw (.bool c))=>match ay P (evG s) s.var s.row o.op with
     | some (vc,v)=>((c == want) = true→vc)∧gok (c == want) (o.op.operands.toList.map (evO s))∧dstP s o∧evP P fn w G rs cs n (.ops all l :: k) (s.put o.dst (.gd (c == want) v.unbox))
     | none=>R (Cx.fn P fn w G rs) (.ops all (o :: l) :: k) s
    | _=>R (Cx.fn P fn w G rs) (.ops all (o :: l) :: k) s
   | none=>R (Cx.fn P fn w G rs) (.ops all (o :: l) :: k) s
 | n + 1,.code c :: k,s=>match c with
  | .seq x y=>evP P fn w G rs cs n (.code x :: .code y :: k) s
  | .skip=>evP P fn w G rs cs n k s
  | .block id c=>evP P fn w G rs cs n (.code c :: .inBlock id :: k) s
  | .exit id=>match exitK id k with
   | some k'=>evP P fn w G rs cs n k' s
   | none=>R (Cx.fn P fn w G rs) (.code (.exit id) :: k) s
  | .ret=>match resD P s fn.results.toList with
   | some (vc,r)=>vc∧r = rs
   | none=>R (Cx.fn P fn w G rs) (.code .ret :: k) s
  | .cond (.tmp t) x y=>match s.get t with
   | .pd (.raw (.bool b))=>(b = true→evP P fn w G rs cs n (.code x :: k) s)∧(b = false→evP P fn w G rs cs n (.code y :: k) s)
   | _=>R (Cx.fn P fn w G rs) (.code (.cond (.tmp t) x y) :: k) s
  | .region _ ops false=>evP P fn w G rs cs n (.ops ops ops.toList :: k) s
  | c=>R (Cx.fn P fn w G rs) (.code c :: k) s
theorem evP_ok {P:Program} {fn:Func} {w:World} {G:Pub} {rs:List PD} (cs:List (Nat × Con P)):∀ (n:Nat) (k:List KI) (s:St),evP P fn w G rs cs n k s→R (Cx.fn P fn w G rs) k s
 | 0,k,s,h=>h
 | _ + 1,[],s,h=>by
  unfold evP at h
  split at h
  ·rename_i vc r hr; obtain ⟨hv,rfl⟩:=h; exact R.overC hr hv
  ·exact h
 | n + 1,.inBlock _ :: k,s,h=>R.inBlock (evP_ok cs n k s h)
 | _ + 1,.loopEnd J :: k,s,h=>h
 | n + 1,.ops _ [] :: k,s,h=>R.nil (evP_ok cs n k s h)
 | n + 1,.ops all (o :: l) :: k,s,h=>by
  simp only [evP] at h
  split at h
  ·rename_i hg
   exact ev2_ok hg (fun s' h'=>evP_ok cs n _ s' h') h
  ·rename_i j want hg
   split at h
   ·rename_i t hj
    split at h
    ·rename_i c hc
     split at h
     ·rename_i vc v ha
      obtain ⟨h1,h2,h3,h4⟩:=h
      exact R.yg hg hj hc (dstP_ok h3) (fun hw=>⟨h2,.op vc v ha (h1 hw)⟩) (evP_ok cs n _ _ h4)
     ·exact h
    ·exact h
   ·exact h
 | n + 1,.code c :: k,s,h=>by
  unfold evP at h
  split at h
  ·exact R.seq (evP_ok cs n _ s h)
  ·exact R.skip (evP_ok cs n _ s h)
  ·exact R.block (evP_ok cs n _ s h)
  ·split at h
   ·rename_i k' he; exact R.exit he (evP_ok cs n _ s h)
   ·exact h
  ·split at h
   ·rename_i vc r hr; obtain ⟨hv,rfl⟩:=h; exact R.retC hr hv
   ·exact h
  ·split at h
   ·rename_i b hb; exact R.cond hb (fun e=>evP_ok cs n _ s (h.1 e)) (fun e=>evP_ok cs n _ s (h.2 e))
   ·exact h
  ·exact R.region (evP_ok cs n _ s h)
  ·exact h
end Go.Abs
end
section
namespace Go.Abs
theorem R.known {C:Cx} {k:List KI} {s:St} {t:Nat} {c b:Bool} (hc:s.get t = .pd (.raw (.bool c))) (e:c = b) (h:R C k (s.set t (.pd (.raw (.bool b))))):R C k s:=by
 subst e
 refine R.weak (s':=s.set t (.pd (.raw (.bool c)))) ⟨rfl,fun j=>?_,fun t cs h=>⟨cs,h,rfl,fun _ _=>.same _⟩,fun _ _ h=>h,fun _ _ h=>h,fun _=>.same _⟩ h
 rw [St.get_set]
 split
 ·rename_i e; subst e; rw [hc]; exact .same _
 ·exact .same _
def evQ (C:Cx) (cs:List (Nat × Con C.P)) (rt:St→Prop):Nat→List KI→St→Prop
 | 0,k,s=>R C k s
 | _ + 1,[],s=>rt s
 | n + 1,.inBlock _ :: k,s=>evQ C cs rt n k s
 | _ + 1,.loopEnd J :: k,s=>R C (.loopEnd J :: k) s
 | n + 1,.ops _ [] :: k,s=>evQ C cs rt n k s
 | n + 1,.ops all (o :: l) :: k,s=>match o.guard with
  | none=>ev2 C cs all o l k s fun s'=>evQ C cs rt n (.ops all l :: k) s'
  | some (j,want)=>match (all[j]?).bind (·.dst) with
   | some t=>match s.get t with
    | .pd (.raw (.bool c))=>if c = want then ev2 C cs all { o with guard:=none } l k (s.set t (.pd (.raw (.bool want)))) (fun s'=>evQ C cs rt n (.ops all l :: k) s')
      else dstP s o∧evQ C cs rt n (.ops all l :: k) ((s.set t (.pd (.raw (.bool !want)))).put o.dst (.tpl []))
    | .tpl []=>dstP s o∧evQ C cs rt n (.ops all l :: k) (s.put o.dst (.tpl []))
    | _=>R C (.ops all (o :: l) :: k) s
   | none=>R C (.ops all (o :: l) :: k) s
 | n + 1,.code c :: k,s=>match c with
  | .seq x y=>evQ C cs rt n (.code x :: .code y :: k) s
  | .skip=>evQ C cs rt n k s
  | .block id c=>evQ C cs rt n (.code c :: .inBlock id :: k) s
  | .exit id=>match exitK id k with
   | some k'=>evQ C cs rt n k' s
   | none=>R C (.code (.exit id) :: k) s
  | .ret=>rt s
  | .cond (.tmp t) x y=>match s.get t with
   | .pd (.raw (.bool b))=>if b = true then evQ C cs rt n (.code x :: k) (s.set t (.pd (.raw (.bool true)))) else evQ C cs rt n (.code y :: k) (s.set t (.pd (.raw (.bool false))))
   | _=>R C (.code (.cond (.tmp t) x y) :: k) s
  | .region _ ops false=>evQ C cs rt n (.ops ops ops.toList :: k) s
  | c=>R C (.code c :: k) s
theorem evQ_ok {C:Cx} {cs:List (Nat × Con C.P)} {rt:St→Prop} (hr:∀ k s,rt s→R C (.code .ret :: k) s) (ho:∀ s,rt s→R C [] s):∀ (n:Nat) (k:List KI) (s:St),evQ C cs rt n k s→R C k s
 | 0,k,s,h=>h
 | _ + 1,[],s,h=>ho s h
 | n + 1,.inBlock _ :: k,s,h=>R.inBlock (evQ_ok hr ho n k s h)
 | _ + 1,.loopEnd J :: k,s,h=>h
 | n + 1,.ops _ [] :: k,s,h=>R.nil (evQ_ok hr ho n k s h)
 | n + 1,.ops all (o :: l) :: k,s,h=>by
  simp only [evQ] at h
  split at h
  ·rename_i hg
   exact ev2_ok hg (fun s' h'=>evQ_ok hr ho n _ s' h') h
  ·rename_i j want hg
   split at h
   ·rename_i t hj
    split at h
    ·rename_i c hc
     split at h
     ·rename_i e
      refine R.known hc e ?_
      have hc':(s.set t (.pd (.raw (.bool want)))).get t = .pd (.raw (.bool want)):=by rw [St.get_set,if_pos rfl]
      exact R.gyes hg hj hc' (by simp) (ev2_ok rfl (fun s' h'=>evQ_ok hr ho n _ s' h') h)
     ·rename_i e
      have e2:c = !want:=by cases c <;> cases want <;> simp_all
      refine R.known hc e2 ?_
      have hc':(s.set t (.pd (.raw (.bool !want)))).get t = .pd (.raw (.bool !want)):=by rw [St.get_set,if_pos rfl]
      exact R.gno hg hj hc' (by cases want <;> rfl) (dstP_ok (s:=s.set t (.pd (.raw (.bool !want)))) h.1) (evQ_ok hr ho n _ _ h.2)
    ·rename_i hc
     exact R.gskip hg hj hc (dstP_ok h.1) (evQ_ok hr ho n _ _ h.2)
    ·exact h
   ·exact h
 | n + 1,.code c :: k,s,h=>by
  unfold evQ at h
  split at h
  ·exact R.seq (evQ_ok hr ho n _ s h)
  ·exact R.skip (evQ_ok hr ho n _ s h)
  ·exact R.block (evQ_ok hr ho n _ s h)
  ·split at h
   ·rename_i k' he; exact R.exit he (evQ_ok hr ho n _ s h)
   ·exact h
  ·exact hr k s h
  ·rename_i t x y
   split at h
   ·rename_i b hb
    refine R.cond hb (fun e=>?_) (fun e=>?_)
    ·rw [if_pos e] at h; exact R.known hb e (evQ_ok hr ho n _ _ h)
    ·rw [if_neg (by simp [e])] at h; exact R.known hb e (evQ_ok hr ho n _ _ h)
   ·exact h
  ·exact R.region (evQ_ok hr ho n _ s h)
  ·exact h
def rtC (P:Program) (fn:Func) (rs:List PD) (s:St):Prop:=match resD P s fn.results.toList with
 | some (vc,r)=>vc∧r = rs
 | none=>False
theorem evQC_ok {P:Program} {fn:Func} {w:World} {G:Pub} {rs:List PD} (cs:List (Nat × Con P)) (n:Nat) (k:List KI) (s:St) (h:evQ (Cx.fn P fn w G rs) cs (rtC P fn rs) n k s):R (Cx.fn P fn w G rs) k s:=by
 refine evQ_ok (fun k s h=>?_) (fun s h=>?_) n k s h
 all_goals
  unfold rtC at h
  split at h
  ·rename_i vc r hr; obtain ⟨hv,rfl⟩:=h
   first | exact R.retC hr hv | exact R.overC hr hv
  ·exact h.elim
theorem evQW_ok {P:Program} {fn:Func} {w:World} {G:Pub} {rs:List PD} (cs:List (Nat × Con P)) (n:Nat) (k:List KI) (s:St) (h:evQ (Cx.fnW P fn w G rs) cs (rtC P fn rs) n k s):R (Cx.fnW P fn w G rs) k s:=by
 refine evQ_ok (fun k s h=>?_) (fun s h=>?_) n k s h
 all_goals
  unfold rtC at h
  split at h
  ·rename_i vc r hr; obtain ⟨hv,rfl⟩:=h
   first | exact R.retW hr hv | exact R.overW hr hv
  ·exact h.elim
end Go.Abs
end
section
namespace Go.Abs
def looksB2 (all:Array Oper) (n m:Nat) (o:Oper):Bool:=(o.looksAt all).all fun t=>(all.toList.zipIdx).all fun p=>decide (n ≤ p.2) || p.1.dst != some t || m.testBit p.2
def drawB2 (all:Array Oper) (n:Nat):Bool:=
 let ms:=masks all.toList []
 (all.toList.zipIdx).all (fun p=>edgesB p.2 p.1 && (if p.2 < n then looksB2 all n (ms.getD p.2 0) p.1 && (all.toList.zipIdx).all (fun q=>!(decide (q.2 < p.2)) || q.1.dst == none || q.1.dst != p.1.dst)
  else (List.range p.2).all fun j=>(ms.getD p.2 0).testBit j)) && decide (n ≤ all.size)
structure DrawOk2 (all:Array Oper) (n:Nat):Prop where
 le:n ≤ all.size
 edge:∀ i o,all[i]? = some o→∀ e ∈ o.after,Region.binds .any e = true→e.on < i
 look:∀ i o,i < n→all[i]? = some o→∀ t ∈ o.looksAt all,∀ j o',j < n→all[j]? = some o'→o'.dst = some t→((masks all.toList []).getD i 0).testBit j = true
 dist:∀ i j o o' t,i < n→j < i→all[i]? = some o→all[j]? = some o'→o.dst = some t→o'.dst = some t→False
 tail:∀ i o,n ≤ i→all[i]? = some o→∀ j,j < i→((masks all.toList []).getD i 0).testBit j = true
 good:GoodM all.toList (masks all.toList [])
 len:(masks all.toList []).length = all.size
theorem drawB_ok2 {all:Array Oper} {n:Nat} (h:drawB2 all n = true):DrawOk2 all n:=by
 unfold drawB2 at h
 simp only [Bool.and_eq_true,decide_eq_true_eq] at h
 obtain ⟨h1,h2⟩:=h
 have hp:∀ i o,all[i]? = some o→_:=fun i o ho=>(List.all_eq_true.1 h1) (o,i) (mem_zipIdx' ho)
 obtain ⟨hg,hl⟩:=masks_good all.toList all.toList [] (by simp) (by simp) (fun i o hi=>by simp at hi)
 refine ⟨h2,fun i o ho e he hb=>?_,fun i o hi ho t ht j o' hjn ho' hd=>?_,fun i j o o' t hi hj ho ho' hd hd'=>?_,fun i o hi ho j hj=>?_,hg,by simpa using hl⟩
 ·have:=hp i o ho
  simp only [Bool.and_eq_true] at this
  have h3:=(List.all_eq_true.1 this.1) e (by simpa using he)
  simpa [hb] using h3
 ·have:=hp i o ho
  simp only [Bool.and_eq_true,if_pos hi] at this
  have h3:=(List.all_eq_true.1 this.2.1) t ht
  have h4:=(List.all_eq_true.1 h3) (o',j) (mem_zipIdx' ho')
  simpa [hd,Nat.not_le.2 hjn] using h4
 ·have:=hp i o ho
  simp only [Bool.and_eq_true,if_pos hi] at this
  have h4:=(List.all_eq_true.1 this.2.2) (o',j) (mem_zipIdx' ho')
  simp [hd,hd',hj] at h4
 ·have:=hp i o ho
  simp only [Bool.and_eq_true,if_neg (Nat.not_lt.2 hi)] at this
  exact (List.all_eq_true.1 this.2) j (by simpa using hj)
section
variable {C:Cx} {s s':St} {a:Act} {w w':World} {E:Env} {P:Program} {all:Array Oper} {k:List KI} {o:Oper}
theorem anc_listed2 {n:Nat} (D:DrawOk2 all n) {L:Array Bool} (hc:∀ i o,L.getD i false = true→all[i]? = some o→∀ e ∈ o.after,Region.binds .any e = true→L.getD e.on false = true) (hs:L.size = all.size):
  ∀ i o,all[i]? = some o→(∀ e ∈ o.after,Region.binds .any e = true→L.getD e.on false = true)→∀ j,((masks all.toList []).getD i 0).testBit j = true→L.getD j false = true∧j < i:=by
 intro i
 induction i using Nat.strongRecOn with
 | _ i ih=>
  intro o ho he j hb
  have hi:i < all.size:=(Array.getElem?_eq_some_iff.1 ho).1
  obtain ⟨e,hem,hbd,h1⟩:=D.good i o (by rw [D.len]; exact hi) (by simpa using ho) j hb
  have hem':e ∈ o.after:=by simpa using hem
  have hlt:=D.edge i o ho e hem' hbd
  have hL:=he e hem' hbd
  rcases h1 with h1 | h1
  ·subst h1; exact ⟨hL,hlt⟩
  ·have h2:e.on < all.size:=by omega
   have h3:all[e.on]? = some all[e.on]:=by simp [h2]
   have:=ih e.on hlt all[e.on] h3 (hc e.on _ hL h3) j h1
   exact ⟨this.1,by omega⟩
theorem draw_tail2 {n:Nat} (D:DrawOk2 all n) {Q:Exit→Act→World→Prop}:∀ (l:List Oper) (m:Nat) (L:Array Bool) (fuel:Nat) (a:Act) (w:World),n ≤ m→m + l.length = all.size→(∀ j,l[j]? = all[m + j]?)→l.length ≤ fuel→L.size = all.size →
  (∀ i,i < all.size→L.getD i false = decide (i < m))→wpList C.P all Q l a w→wpAny C.P .any all Q fuel L a w
 | [],m,L,fuel,a,w,hn,hm,hl,hf,hs,hL,h=>by
  have hr:Region.ready .any all L = []:=by
   apply List.eq_nil_iff_forall_not_mem.2
   intro i hi
   obtain ⟨h1,o,ho,_⟩:=mem_ready.1 hi
   have hlt:=(Array.getElem?_eq_some_iff.1 ho).1
   rw [getD_true_false (by omega),hL i hlt] at h1
   simp at h1 hm; omega
  cases fuel with
  | zero=>exact ⟨hr,h⟩
  | succ f=>exact ⟨fun _=>h,fun i hi=>by rw [hr] at hi; cases hi⟩
 | o :: l,m,L,fuel,a,w,hn,hm,hl,hf,hs,hL,h=>by
  simp only [List.length_cons] at hm hf
  have ho:all[m]? = some o:=by have:=hl 0; simpa using this.symm
  have hmlt:m < all.size:=by omega
  have hready:m ∈ Region.ready .any all L:=mem_ready.2 ⟨by rw [getD_true_false (by omega),hL m hmlt]; simp,o,ho,fun e he hb=>by
   have:=D.edge m o ho e he hb
   rw [hL e.on (by omega)]; simpa using this⟩
  have honly:∀ i,i ∈ Region.ready .any all L→i = m:=by
   intro i hi
   obtain ⟨h1,o',ho',hall⟩:=mem_ready.1 hi
   have hlt:=(Array.getElem?_eq_some_iff.1 ho').1
   rw [getD_true_false (by omega),hL i hlt] at h1
   simp at h1
   rcases Nat.lt_or_ge m i with c | c
   ·have hbit:=D.tail i o' (by omega) ho' m c
    have hcl:∀ i o,L.getD i false = true→all[i]? = some o→∀ e ∈ o.after,Region.binds .any e = true→L.getD e.on false = true:=by
     intro i2 o2 h2 ho2 e he hb
     have h3:=(Array.getElem?_eq_some_iff.1 ho2).1
     rw [hL i2 h3] at h2
     have h4:=D.edge i2 o2 ho2 e he hb
     rw [hL e.on (by omega)]
     simp at h2 ⊢; omega
    have:=(anc_listed2 D hcl hs i o' ho' hall m hbit).1
    rw [hL m hmlt] at this
    simp at this
   ·omega
  cases fuel with
  | zero=>omega
  | succ f=>
   refine ⟨fun hnil=>(by rw [hnil] at hready; cases hready),fun i hi=>?_⟩
   obtain rfl:=honly i hi
   have hw:wpOp C.P all Q i (wpList C.P all Q l) a w:=by
    unfold wpOp
    simp only [ho]
    exact h
   refine wpOp_mono (fun a' w' h'=>?_) hw
   refine draw_tail2 D l (i + 1) _ f a' w' (by omega) (by omega) (fun j=>?_) (by omega) (by simpa using hs) (fun i' hi'=>?_) h'
   ·have:=hl (j + 1); simp only [List.getElem?_cons_succ] at this; rw [this]; congr 1; omega
   ·by_cases c:i' = i
    ·subst c; rw [getD_set_self (by omega)]; simp
    ·rw [getD_set_ne false (Ne.symm c),hL i' hi']
     simp; omega
theorem draw_any2 {n:Nat} (D:DrawOk2 all n) {vs:List SV} (hvl:vs.length = n) (hr:R C (.ops all (all.toList.drop n) :: k) (pre s ((all.toList.take n).zip vs)))
  (hy:∀ i o,(all.toList.take n)[i]? = some o→YG C.dr C.P all (pre s (((all.toList.take n).zip vs).take i)) o (vs.getD i .dead)∧dstOk s o):
  ∀ (fuel:Nat) (L:Array Bool) (s':St) (a:Act) (w:World) (E:Env),At all n vs s s' L→cnt L ≤ fuel→Gam C s' a w E→wpAny C.P .any all (fin C k) fuel L a w:=by
 have hnle:=D.le
 have zget:∀ i o,i < n→all[i]? = some o→((all.toList.take n).zip vs)[i]? = some (o,vs.getD i .dead):=by
  intro i o hi ho
  have h1:(all.toList.take n)[i]? = some o:=by rw [List.getElem?_take,if_pos hi]; simpa using ho
  have h2:vs[i]? = some (vs.getD i .dead):=by rw [List.getD_eq_getElem?_getD,List.getElem?_eq_getElem (by omega)]; rfl
  rw [List.getElem?_zip_eq_some]; exact ⟨h1,h2⟩
 have preGet:∀ m,m ≤ n→∀ t,(∀ i o,i < m→all[i]? = some o→o.dst = some t→(pre s (((all.toList.take n).zip vs).take m)).get t = vs.getD i .dead) ∧
   ((∀ i o,i < m→all[i]? = some o→o.dst ≠ some t)→(pre s (((all.toList.take n).zip vs).take m)).get t = s.get t):=by
  intro m hm t
  have zl:((all.toList.take n).zip vs).length = n:=by simp [hvl]; omega
  have memz:∀ p j,((all.toList.take n).zip vs)[j]? = some p→all[j]? = some p.1∧j < n:=by
   intro p j hp
   have hj:j < n:=by rw [← zl]; exact (List.getElem?_eq_some_iff.1 hp).1
   rw [List.getElem?_zip_eq_some] at hp
   have:=hp.1
   rw [List.getElem?_take,if_pos hj] at this
   exact ⟨by simpa using this,hj⟩
  constructor
  ·intro i o hi ho hd
   have hz:=zget i o (by omega) ho
   have hil:i < ((all.toList.take n).zip vs).length:=by omega
   have hsplit:((all.toList.take n).zip vs).take m = ((all.toList.take n).zip vs).take i ++ (o,vs.getD i .dead) :: (((all.toList.take n).zip vs).take m).drop (i + 1):=by
    have e1:(((all.toList.take n).zip vs).take m)[i]? = some (o,vs.getD i .dead):=by rw [List.getElem?_take,if_pos hi]; exact hz
    have hl2:i < (((all.toList.take n).zip vs).take m).length:=(List.getElem?_eq_some_iff.1 e1).1
    have e2:(((all.toList.take n).zip vs).take m)[i] = (o,vs.getD i .dead):=(List.getElem?_eq_some_iff.1 e1).2
    have e3:=List.take_append_drop i (((all.toList.take n).zip vs).take m)
    rw [List.drop_eq_getElem_cons hl2,e2,List.take_take,Nat.min_eq_left (by omega)] at e3
    exact e3.symm
   rw [hsplit]
   refine pre_some t _ _ o _ s hd (fun p hp=>?_)
   obtain ⟨q,hq,rfl⟩:=List.getElem_of_mem hp
   intro hpd
   have hq2:((((all.toList.take n).zip vs).take m).drop (i + 1))[q]? = some (((((all.toList.take n).zip vs).take m).drop (i + 1))[q]):=List.getElem?_eq_getElem hq
   rw [List.getElem?_drop,List.getElem?_take] at hq2
   split at hq2
   ·obtain ⟨h3,h4⟩:=memz _ _ hq2
    exact D.dist (i + 1 + q) i _ o t h4 (by omega) h3 ho hpd hd
   ·cases hq2
  ·intro hno
   refine pre_none t _ s (fun p hp=>?_)
   obtain ⟨q,hq,rfl⟩:=List.getElem_of_mem hp
   have hq2:(((all.toList.take n).zip vs).take m)[q]? = some ((((all.toList.take n).zip vs).take m)[q]):=List.getElem?_eq_getElem hq
   rw [List.getElem?_take] at hq2
   split at hq2
   ·obtain ⟨h3,h4⟩:=memz _ _ hq2
    exact hno q _ (by omega) h3
   ·cases hq2
 intro fuel
 induction fuel with
 | zero=>
  intro L s' a w E A hcnt g
  have hall:=cnt_zero (Nat.le_zero.1 hcnt)
  have hn:n = all.size:=by
   rcases Nat.lt_or_ge n all.size with h | h
   ·have h1:=A.tail n (Nat.le_refl _); rw [hall n (by rw [A.size]; exact h)] at h1; cases h1
   ·omega
  have hle:St.le s' (pre s ((all.toList.take n).zip vs)):=by
   have hps:=pre_same s ((all.toList.take n).zip vs)
   have hpg:=preGet n (Nat.le_refl _)
   have ht:((all.toList.take n).zip vs).take n = (all.toList.take n).zip vs:=List.take_of_length_le (by simp [hvl]; omega)
   simp only [ht] at hpg
   refine ⟨hps.1.trans A.sn.symm,fun t=>?_,fun t cs h=>⟨cs,by simpa [St.var,hps.2.1,A.sv] using h,rfl,fun _ _=>.same _⟩,fun i r h=>by simpa [St.row,hps.2.2.1,A.sr] using h,fun r m h=>by simpa [St.map,hps.2.2.2.1,A.sm] using h,fun t=>by simp only [St.gget,hps.2.2.2.2,A.sg]; exact .same _⟩
   by_cases c:∃ (i:Nat) (o:Oper),i < n∧all[i]? = some o∧o.dst = some t
   ·obtain ⟨i,o,hi,ho,hd⟩:=c
    rw [(hpg t).1 i o hi ho hd,A.done i o t hi (hall i (by rw [A.size]; omega)) ho hd]; exact .same _
   ·have c':∀ i o,i < n→all[i]? = some o→o.dst ≠ some t:=fun i o hi ho hd=>c ⟨i,o,hi,ho,hd⟩
    rw [(hpg t).2 c',A.rest t (fun i o hi _ ho=>c' i o hi ho)]; exact .same _
  have hw:=hr a w E (g.weak hle)
  simp only [fin] at hw
  exact draw_tail2 D _ n L 0 a w (Nat.le_refl _) (by simp; omega) (fun j=>by simp) (by simp; omega) A.size (fun i hi=>by rw [hall i (by rw [A.size]; exact hi)]; simp; omega) hw
 | succ fuel ih=>
  intro L s' a w E A hcnt g
  by_cases hpure:∀ i,i < n→L.getD i false = true
  ·
   have hle:St.le s' (pre s ((all.toList.take n).zip vs)):=by
    have hps:=pre_same s ((all.toList.take n).zip vs)
    have hpg:=preGet n (Nat.le_refl _)
    have ht:((all.toList.take n).zip vs).take n = (all.toList.take n).zip vs:=List.take_of_length_le (by simp [hvl]; omega)
    simp only [ht] at hpg
    refine ⟨hps.1.trans A.sn.symm,fun t=>?_,fun t cs h=>⟨cs,by simpa [St.var,hps.2.1,A.sv] using h,rfl,fun _ _=>.same _⟩,fun i r h=>by simpa [St.row,hps.2.2.1,A.sr] using h,fun r m h=>by simpa [St.map,hps.2.2.2.1,A.sm] using h,fun t=>by simp only [St.gget,hps.2.2.2.2,A.sg]; exact .same _⟩
    by_cases c:∃ (i:Nat) (o:Oper),i < n∧all[i]? = some o∧o.dst = some t
    ·obtain ⟨i,o,hi,ho,hd⟩:=c
     rw [(hpg t).1 i o hi ho hd,A.done i o t hi (hpure i hi) ho hd]; exact .same _
    ·have c':∀ i o,i < n→all[i]? = some o→o.dst ≠ some t:=fun i o hi ho hd=>c ⟨i,o,hi,ho,hd⟩
     rw [(hpg t).2 c',A.rest t (fun i o hi _ ho=>c' i o hi ho)]; exact .same _
   have hw:=hr a w E (g.weak hle)
   simp only [fin] at hw
   have hLd:∀ i,i < all.size→L.getD i false = decide (i < n):=by
    intro i hi
    by_cases c:i < n
    ·rw [hpure i c]; simp [c]
    ·rw [A.tail i (by omega)]; simp [c]
   have hc2:all.size - n ≤ cnt L:=by
    unfold cnt
    have e1:L.toList = L.toList.take n ++ L.toList.drop n:=(List.take_append_drop n _).symm
    rw [e1,List.countP_append]
    have e2:(L.toList.drop n).countP (fun b=>!b) = (L.toList.drop n).length:=by
     rw [List.countP_eq_length]
     intro b hb
     obtain ⟨q,hq,rfl⟩:=List.getElem_of_mem hb
     have hql:n + q < L.size:=by simpa [Nat.lt_sub_iff_add_lt,Nat.add_comm] using hq
     have:=A.tail (n + q) (by omega)
     have h3:L.getD (n + q) false = L[n + q]:=by simp [Array.getD,hql]
     simp only [List.getElem_drop,Array.getElem_toList]
     rw [← h3,this]; rfl
    rw [e2]
    have:=A.size
    simp; omega
   exact draw_tail2 D _ n L (fuel + 1) a w (Nat.le_refl _) (by simp; omega) (fun j=>by simp) (by simp; omega) A.size hLd hw
  ·
   have hex:∃ i,i < n∧L.getD i false = false:=by
    apply Classical.byContradiction
    intro hno
    refine hpure fun i hi=>?_
    cases hb:L.getD i false with
    | true=>rfl
    | false=>exact (hno ⟨i,hi,hb⟩).elim
   obtain ⟨i0,⟨hi0,hf0⟩,hmin⟩:=exists_least (p:=fun i=>i < n∧L.getD i false = false) hex
   refine ⟨fun hnil=>?_,fun i hi=>?_⟩
   ·have hlt:i0 < all.size:=by omega
    have ho0:all[i0]? = some all[i0]:=by simp [hlt]
    have:i0 ∈ Region.ready .any all L:=mem_ready.2 ⟨by rw [getD_true_false (by rw [A.size]; exact hlt)]; exact hf0,all[i0],ho0,fun e he hb=>by
     have hel:=D.edge i0 _ ho0 e he hb
     cases hb2:L.getD e.on false with
     | true=>rfl
     | false=>have:=hmin e.on ⟨by omega,hb2⟩; omega⟩
    rw [hnil] at this; cases this
   ·obtain ⟨hun,o,ho,hall⟩:=mem_ready.1 hi
    have hlt:=(Array.getElem?_eq_some_iff.1 ho).1
    have hunf:L.getD i false = false:=by rw [← getD_true_false (by rw [A.size]; exact hlt)]; exact hun
    have hin:i < n:=by
     rcases Nat.lt_or_ge i n with h | h
     ·exact h
     ·have hbit:=D.tail i o h ho i0 (by omega)
      have:=(anc_listed2 D A.closed A.size i o ho hall i0 hbit).1
      rw [hf0] at this; cases this
    have hoT:(all.toList.take n)[i]? = some o:=by rw [List.getElem?_take,if_pos hin]; simpa using ho
    obtain ⟨hY,hdo⟩:=hy i o hoT
    have hps:=pre_same s (((all.toList.take n).zip vs).take i)
    have hlook:∀ t ∈ o.looksAt all,s'.get t = (pre s (((all.toList.take n).zip vs).take i)).get t:=by
     intro t ht
     have hpg:=preGet i (by omega) t
     by_cases c:∃ (j:Nat) (o':Oper),j < n∧all[j]? = some o'∧o'.dst = some t
     ·obtain ⟨j,o',hjn,ho',hd'⟩:=c
      have hbit:=D.look i o hin ho t ht j o' hjn ho' hd'
      obtain ⟨hLj,hji⟩:=anc_listed2 D A.closed A.size i o ho hall j hbit
      rw [hpg.1 j o' hji ho' hd',A.done j o' t (by omega) hLj ho' hd']
     ·have c':∀ (j:Nat) (o':Oper),j < n→all[j]? = some o'→o'.dst ≠ some t:=fun j o' hjn ho' hd'=>c ⟨j,o',hjn,ho',hd'⟩
      rw [hpg.2 (fun j o' hji ho'=>c' j o' (by omega) ho'),A.rest t (fun j o' hj _ ho'=>c' j o' hj ho')]
    have hY':=hY.congr hlook (by rw [hps.2.1]; exact A.sv) (by rw [hps.2.2.1]; exact A.sr)
    have hd':dstOk s' o:=fun t ht=>by rw [A.sn]; exact hdo t ht
    refine YG.step g ho hd' hY' fun u w' E' g'=>?_
    refine ih _ (s'.put o.dst (vs.getD i .dead)) _ w' E' ?_ (by have:=cnt_set (L:=L) (i:=i) (by rw [A.size]; exact hlt) hunf; omega) g'
    have hset:∀ j,(L.setIfInBounds i true).getD j false = if j = i then true else L.getD j false:=by
     intro j
     by_cases c:j = i
     ·subst c; rw [if_pos rfl,getD_set_self (by rw [A.size]; exact hlt)]
     ·rw [if_neg c,getD_set_ne false (Ne.symm c)]
    have hsame:(s'.put o.dst (vs.getD i .dead)).n = s'.n∧(s'.put o.dst (vs.getD i .dead)).vars = s'.vars∧(s'.put o.dst (vs.getD i .dead)).rows = s'.rows∧(s'.put o.dst (vs.getD i .dead)).maps = s'.maps∧(s'.put o.dst (vs.getD i .dead)).gs = s'.gs:=by cases o.dst <;> exact ⟨rfl,rfl,rfl,rfl,rfl⟩
    exact {
     size:=by simpa using A.size
     closed:=fun j o' hj ho' e he hb=>by
      rw [hset] at hj ⊢
      split
      ·rfl
      ·split at hj
       ·rename_i h; subst h; rw [ho] at ho'; cases ho'; exact hall e he hb
       ·exact A.closed j o' hj ho' e he hb
     tail:=fun j hj=>by rw [hset,if_neg (by omega)]; exact A.tail j hj
     sn:=hsame.1.trans A.sn
     sv:=hsame.2.1.trans A.sv
     sr:=hsame.2.2.1.trans A.sr
     sm:=hsame.2.2.2.1.trans A.sm
     sg:=hsame.2.2.2.2.trans A.sg
     done:=fun j o' t hj hL ho' hd=>by
      rw [get_put]
      rw [hset] at hL
      by_cases c:j = i
      ·subst c; rw [ho] at ho'; cases ho'; rw [if_pos hd]
      ·rw [if_neg c] at hL
       rw [if_neg]
       ·exact A.done j o' t hj hL ho' hd
       ·intro hdi
        rcases Nat.lt_or_gt_of_ne c with c | c
        ·exact D.dist i j o o' t hin c ho ho' hdi hd
        ·exact D.dist j i o' o t hj c ho' ho hd hdi
     rest:=fun t hno=>by
      rw [get_put,if_neg (hno i o hin (by rw [hset,if_pos rfl]) ho)]
      exact A.rest t fun j o' hj hL ho'=>hno j o' hj (by rw [hset]; split; rfl; exact hL) ho' }
theorem R.draw2 {id:Nat} (n:Nat) (hm:C.P.follows .mixedOrders = true) (hB:drawB2 all n = true) (h:RY C all (all.toList.drop n) k (all.toList.take n) s):R C (.code (.region id all true) :: k) s:=by
 intro a w E g
 have D:=drawB_ok2 hB
 obtain ⟨vs,hl,hr,hy⟩:=RY.unfold _ _ _ h
 refine wp_region_any hm ?_
 refine draw_any2 D (by have:=D.le; simp at hl; omega) hr hy all.size (Array.replicate all.size false) s a _ E ?_ ?_ g.drew
 ·exact {
   size:=by simp
   closed:=fun i o hi=>by simp [Array.getD] at hi
   tail:=fun i _=>by simp [Array.getD]
   sn:=rfl
   sv:=rfl
   sr:=rfl
   sm:=rfl
   sg:=rfl
   done:=fun i o t _ hi=>by simp [Array.getD] at hi
   rest:=fun _ _=>rfl }
 ·unfold cnt; exact Nat.le_trans List.countP_le_length (by simp)
end
theorem R.drawE2 {C:Cx} {all:Array Oper} {k:List KI} {s:St} {id:Nat} (n m:Nat) (hm:C.P.follows .mixedOrders = true) (hB:drawB2 all n = true) (h:evY C all (all.toList.drop n) k m (all.toList.take n) s):R C (.code (.region id all true) :: k) s:=
 R.draw2 n hm hB (evY_ok m _ s h)
end Go.Abs
end
section
namespace Go.Proofs.YtjbhhddfaohdnaaGreatDoor
open Go Go.Proofs Go.Abs
set_option maxRecDepth 10000
set_option maxHeartbeats 4000000
theorem ent5:Ent Tryz.prog 5:=fun args w=>(by kernel_rfl:(callFunc 5 args).run Tryz.prog w = .ok (.enter 5 args) w)
theorem fewW_iff {w:W} (h:fewW w = true):w.pos.length ≤ 20∧w.neg.length ≤ 20:=by
 simpa [fewW] using h
theorem fewL_iff {l:List W} {n:Int} (h:fewL l n = true):(l.length:Int) ≤ n∧∀ w ∈ l,w.pos.length ≤ 20∧w.neg.length ≤ 20:=by
 simp only [fewL,Bool.and_eq_true,decide_eq_true_eq,List.all_eq_true] at h
 exact ⟨h.1,fun w hw=>fewW_iff (h.2 w hw)⟩
theorem insBy_len5 {α:Type} (c:α→α→Int) (x:α):∀ l:List α,(insBy c x l).length ≤ l.length + 1
 | []=>by simp [insBy]
 | y :: l=>by
  have:=insBy_len5 c x l
  simp only [insBy]
  repeat' split
  all_goals simp <;> omega
theorem sortBy_len5 {α:Type} (c:α→α→Int):∀ l:List α,(sortBy c l).length ≤ l.length
 | []=>by simp [sortBy]
 | x :: l=>by
  have h1:=sortBy_len5 c l
  have h2:=insBy_len5 c x (sortBy c l)
  simp only [sortBy,List.foldr_cons,List.length_cons] at *; omega
theorem minW_len5 (l:List W):(minW l).length ≤ l.length:=
 Nat.le_trans (sortBy_len5 _ _) (Nat.le_trans (List.length_filter_le _ _) (Nat.le_trans (List.length_filter_le _ _) (by simp)))
theorem _root_.Go.Abs.R.callGW {C:Cx} {all:Array Oper} {o:Oper} {l:List Oper} {k:List KI} {s:St} {f:FuncId} {xs:Array Operand} {ts:Array TypeId} {args:List SV} {rs:List PD} {b:Bool} {j t:Nat} {want c:Bool} (hdr:C.dr = false) (hg:o.guard = some (j,want)) (hj:(all[j]?).bind (·.dst) = some t) (hcc:s.get t = .pd (.raw (.bool c))) (ho:o.op = .call ⟨.value (.func f),xs,ts⟩)
  (h:(c == want) = true→gok (c == want) (o.op.operands.toList.map (evO s))∧CoL C.P s.var s.row (xs.toList.map (evG s)) args b∧FnW C.P f args rs) (hl:b = true→plain rs = true) (hd:dstP s o) (next:R C (.ops all l :: k) (s.put o.dst (.gd (c == want) (retSV rs)))):R C (.ops all (o :: l) :: k) s:=
 R.yg hg hj hcc (dstP_ok hd) (fun hw=>⟨(h hw).1,.callW f xs ts args rs b hdr ho (h hw).2.1 (h hw).2.2 hl⟩) next
def twice (l:List W):List W:=l.flatMap fun w=>[w,w]
def turned (l:List W) (k:Nat):List W:=twice (l.drop k).reverse
theorem turned_step {l:List W} {k:Nat} (h:k < l.length):turned l k = turned l (k + 1) ++ [l[k],l[k]]:=by
 unfold turned twice
 rw [drop_cons h,List.reverse_cons,List.flatMap_append]
 rfl
theorem mem_turned (l:List W) (x:W):x ∈ turned l 0 ↔ x ∈ l:=by
 simp [turned,twice]
theorem turned_len (l:List W) (k:Nat):(turned l k).length ≤ 2 * l.length:=by
 have:∀ m:List W,(twice m).length = 2 * m.length:=by
  intro m
  induction m with
  | nil=>rfl
  | cons x m ih=>simp only [twice,List.flatMap_cons,List.length_append,List.length_cons,List.length_nil] at ih ⊢; omega
 unfold turned
 rw [this]; simp; omega
theorem law5_ok (hhead:FnW Tryz.prog 10 [] [B true]) (l:List W) (set:List Int):FnW Tryz.prog 5 [.pd (ways l),.pd (ints set)] [B true]:=by
 refine FnW.mk Tryz.func5 rfl ent5 (by simp [Tryz.ntmps5]) fun w G=>?_
 refine R.bound 0 (sz:=2) (ds:=l.map way) rfl fun hl=>?_
 have hl:l.length ≤ 9223372036854775807:=by simpa [maxLen] using hl
 (refine ev_ok 80 _ _ ?_; simp only [go_sem])
 refine R.callW (by rfl) (hhead) rfl rfl (.nil) (by simp [plain,PD.plain]) (by simp only [go_sem]) ?_
 (refine ev_ok 80 _ _ ?_; simp only [go_sem])
 refine R.callC (few_ok l 20) rfl rfl (.cons (.pd _) (.cons (.pd _) (.nil))) (by simp [plain,PD.plain]) (by simp only [go_sem]) ?_
 by_cases hf:fewL l 20 = true
 ·rw [hf]
  obtain ⟨hn,hw⟩:=fewL_iff hf
  by_cases hs:set.length ≤ 30
  ·have hd:decide ((set.length:Int) > 30) = false:=by simp; omega
   have okl:okL l:=⟨by omega,fun w hwl=>by have:=hw w hwl; exact ⟨by omega,by omega⟩⟩
   (refine evL_ok 80 _ _ ?_; simp only [go_sem,↓reduceIte,hd])
   refine R.callW (by rfl) (minimal_ok l okl) rfl rfl (.cons (.pd _) (.nil)) (by simp [plain,PD.plain]) (by simp only [go_sem]) ?_
   (refine ev_ok 80 _ _ ?_; simp only [go_sem])
   refine R.callC (some_ok l set) rfl rfl (.cons (.pd _) (.cons (.pd _) (.nil))) (by simp [plain,PD.plain]) (by simp only [go_sem]) ?_
   (refine ev_ok 80 _ _ ?_; simp only [go_sem])
   refine R.callC (some_ok (minW l) set) rfl rfl (.cons (.pd _) (.cons (.pd _) (.nil))) (by simp [plain,PD.plain]) (by simp only [go_sem]) ?_
   rw [some_minW]
   (refine ev_ok 80 _ _ ?_; simp only [go_sem])
   refine ⟨fun h=>by simp at h,fun _=>?_⟩
   (refine ev_ok 80 _ _ ?_; simp only [go_sem])
   refine R.mkOwn 7 7 53 2 (by (simp only [go_sem])) rfl rfl ?_
   (simp only [go_sem])
   have hw0:IntKind.i64.wrap ((l.length:Int) - 1) = (l.length:Int) - 1:=wrap64 (by omega) (by omega)
   have h0:(turned l l.length).map way = []:=by unfold turned; rw [List.drop_of_length_le (Nat.le_refl _)]; rfl
   (refine ev_ok 80 _ _ ?_; simp only [go_sem,hw0])
   refine R.famU (fun (k:Nat) s=>St.lp [0,4,5,6,46,47,48,49,50,51,52,53,54,55,56,57,58] [(8,.pd (I ((k:Int) - 1))),(7,.own 7)] [] [] [] [(7,⟨53,2,(turned l k).map way⟩)] s) (fun (k:Nat)=>k ≤ l.length) (fun (k:Nat)=>k) (l.length) (by omega) (by (simp only [go_sem,h0]); all_goals (and_intros <;> rfl)) ?_
   rintro k hk
   rcases k with _ | j
   ·have e0:(((0:Nat):Int) - 1) = -1:=rfl
    (refine evL_ok 80 _ _ ?_; simp only [go_sem,↓reduceIte,e0,Int.reduceGE,Int.reduceNeg,ge_iff_le,Int.reduceLE,decide_false])
    refine R.frz 7 rfl rfl ?_
    have okt:okL (turned l 0):=⟨by have:=turned_len l 0; omega,fun w hwt=>okl.2 w ((mem_turned l w).1 hwt)⟩
    have okm:okL (minW l):=⟨by have:=minW_len5 l; omega,fun w hwm=>okW_norms okl ((mem_minW l w).1 hwm).1⟩
    have m1:minW (turned l 0) = minW l:=minW_set fun x=>mem_turned l x
    (simp only [go_sem])
    refine R.callW (by rfl) (minimal_ok _ okt) rfl rfl (.cons (.pd _) (.nil)) (by simp [plain,PD.plain]) (by simp only [go_sem]) ?_
    rw [m1]
    (refine evL_ok 80 _ _ ?_; simp only [go_sem,↓reduceIte,ite_self])
    refine R.callC (sameWays_ok (minW l) (minW l)) rfl rfl (.cons (.pd _) (.cons (.pd _) (.nil))) (by simp [plain,PD.plain]) (by simp only [go_sem]) ?_
    rw [decide_eq_true rfl]
    (refine evL_ok 80 _ _ ?_; simp only [go_sem,↓reduceIte,ite_self])
    refine R.callW (by rfl) (minimal_ok _ okm) rfl rfl (.cons (.pd _) (.nil)) (by simp [plain,PD.plain]) (by simp only [go_sem]) ?_
    rw [minW_minW]
    (refine evL_ok 80 _ _ ?_; simp only [go_sem,↓reduceIte,ite_self])
    refine R.callC (sameWays_ok (minW l) (minW l)) rfl rfl (.cons (.pd _) (.cons (.pd _) (.nil))) (by simp [plain,PD.plain]) (by simp only [go_sem]) ?_
    rw [decide_eq_true rfl]
    (refine evL_ok 80 _ _ ?_; simp only [go_sem,↓reduceIte,ite_self])
    refine R.retW (vc:=True) ?_ trivial
    rfl
   ·have e1:(((j + 1:Nat):Int) - 1) = (j:Int):=by omega
    have hge:decide ((j:Int) ≥ 0) = true:=by simp
    have hlt:j < l.length:=by omega
    have hj1:IntKind.i64.wrap ((j:Int) - 1) = (j:Int) - 1:=wrap64 (by omega) (by omega)
    have hsn:(turned l j).map way = (turned l (j + 1)).map way ++ [way l[j],way l[j]]:=by rw [turned_step hlt,List.map_append]; rfl
    have htl:=turned_len l (j + 1)
    (refine evL_ok 80 _ _ ?_; simp only [go_sem,↓reduceIte,e1,hge])
    refine R.drawE2 10 80 mixed (by kernel_rfl) ?_; simp only [go_sem,getD_map,hlt]
    (repeat (refine And.intro (by omega) ?_))
    refine R.append (r:=⟨53,2,(turned l (j + 1)).map way⟩) (es:=[way l[j],way l[j]]) rfl rfl (dstP_ok (by (simp only [go_sem]))) rfl rfl rfl rfl sl32 rfl sz53 (by simp) (congrArg (Option.map List.length) ze53) rfl (fun i hi=>by
     match i,hi with
     | 0,_=>rfl
     | 1,_=>rfl) (by show _ * byT Tryz.prog 53 ≤ _; rw [by53]; simp; omega) (by simp [maxLen]; omega) ?_
    (refine ev_ok 80 _ _ ?_; simp only [go_sem,hj1])
    refine R.famEnd j (by omega) (by show _ < _; omega) (by (simp only [go_sem,hsn]); all_goals (and_intros <;> rfl))
  ·have hd:decide ((set.length:Int) > 30) = true:=by simp; omega
   (refine evL_ok 80 _ _ ?_; simp only [go_sem,↓reduceIte,hd])
   refine R.retW (vc:=True) ?_ trivial
   rfl
 ·have hf:fewL l 20 = false:=by simpa using hf
  rw [hf]
  (refine evL_ok 80 _ _ ?_; simp only [go_sem,↓reduceIte,ite_self])
  (refine ev_ok 80 _ _ ?_; simp only [go_sem])
  refine R.retW (vc:=True) ?_ trivial
  rfl
end Go.Proofs.YtjbhhddfaohdnaaGreatDoor
end
