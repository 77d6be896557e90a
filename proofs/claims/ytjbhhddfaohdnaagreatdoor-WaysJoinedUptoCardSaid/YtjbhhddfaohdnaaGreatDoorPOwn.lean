/- A part of the proof: Draw, Drj, Own. -/
import Derived.Test.YtjbhhddfaohdnaaGreatDoorPFn
set_option linter.all false
set_option linter.deprecated false
section
namespace Go.Abs
def maskOf (acc:List Nat) (o:Oper):Nat:=o.after.toList.foldl (fun m e=>if Region.binds .any e then m ||| (2 ^ e.on ||| acc.getD e.on 0) else m) 0
def masks:List Oper→List Nat→List Nat
 | [],acc=>acc
 | o::l,acc=>masks l (acc++[maskOf acc o])
def edgesB (i:Nat) (o:Oper):Bool:=o.after.toList.all fun e=>!Region.binds .any e || decide (e.on<i)
def looksB (all:Array Oper) (m:Nat) (o:Oper):Bool:=(o.looksAt all).all fun t=>(all.toList.zipIdx).all fun p=>p.1.dst != some t || m.testBit p.2
def drawB (all:Array Oper) (n:Nat):Bool:=
 let ms:=masks all.toList []
 (all.toList.zipIdx).all (fun p=>edgesB p.2 p.1&&(if p.2<n then looksB all (ms.getD p.2 0) p.1&&(all.toList.zipIdx).all (fun q=>!(decide (q.2<p.2)) || q.1.dst == none || q.1.dst != p.1.dst)
  else (List.range p.2).all fun j=>(ms.getD p.2 0).testBit j))&&decide (n≤all.size)
theorem fold_bits (acc:List Nat) (j:Nat):∀ (l:List Edge) (m:Nat),(l.foldl (fun m e=>if Region.binds .any e then m ||| (2 ^ e.on ||| acc.getD e.on 0) else m) m).testBit j=true →
  m.testBit j=true∨∃ e∈l,Region.binds .any e=true∧(e.on=j∨(acc.getD e.on 0).testBit j=true)
 | [],m,h=>.inl h
 | e::l,m,h=>by
  simp only [List.foldl_cons] at h
  rcases fold_bits acc j l _ h with h1 | ⟨e',he',h1⟩
  ·split at h1
   ·rename_i hb
    simp only [Nat.testBit_or,Bool.or_eq_true] at h1
    rcases h1 with h1 | h1 | h1
    ·exact .inl h1
    ·refine .inr ⟨e,List.mem_cons_self ..,hb,.inl ?_⟩
     rw [Nat.testBit_two_pow] at h1
     simpa using h1
    ·exact .inr ⟨e,List.mem_cons_self ..,hb,.inr h1⟩
   ·exact .inl h1
  ·exact .inr ⟨e',List.mem_cons_of_mem _ he',h1⟩
def GoodM (all:List Oper) (acc:List Nat):Prop:=∀ i o,i<acc.length→all[i]? = some o→∀ j,(acc.getD i 0).testBit j=true→∃ e∈o.after.toList,Region.binds .any e=true∧(e.on=j∨(acc.getD e.on 0).testBit j=true)
theorem masks_good (all:List Oper):∀ (l:List Oper) (acc:List Nat),(∀ k,l[k]? = all[acc.length+k]?)→acc.length+l.length=all.length→GoodM all acc→GoodM all (masks l acc)∧(masks l acc).length=all.length
 | [],acc,_,hl,h=>⟨h,by simpa [masks] using hl⟩
 | o::l,acc,hk,hl,h=>by
  have h0:all[acc.length]? = some o:=by have:=hk 0; simpa using this.symm
  refine masks_good all l (acc++[maskOf acc o]) (fun k=>?_) (by simp at hl ⊢; omega) ?_
  ·have:=hk (k+1)
   simp only [List.getElem?_cons_succ] at this
   rw [this]; congr 1; simp; omega
  ·intro i o' hi ho j hb
   have ext:∀ x b,(acc.getD x 0).testBit b=true→((acc++[maskOf acc o]).getD x 0).testBit b=true:=by
    intro x b hx
    by_cases c:x<acc.length
    ·rw [List.getD_eq_getElem?_getD,List.getElem?_append_left c,← List.getD_eq_getElem?_getD]; exact hx
    ·rw [List.getD_eq_getElem?_getD,List.getElem?_eq_none (by omega)] at hx; simp at hx
   by_cases c:i<acc.length
   ·have e1:(acc++[maskOf acc o]).getD i 0=acc.getD i 0:=by rw [List.getD_eq_getElem?_getD,List.getElem?_append_left c,← List.getD_eq_getElem?_getD]
    rw [e1] at hb
    obtain ⟨e,he,hbd,h1⟩:=h i o' c ho j hb
    exact ⟨e,he,hbd,h1.imp id (ext _ _)⟩
   ·have hi':i=acc.length:=by simp at hi; omega
    subst hi'
    rw [h0] at ho; cases ho
    have e1:(acc++[maskOf acc o]).getD acc.length 0=maskOf acc o:=by simp [List.getD_eq_getElem?_getD]
    rw [e1] at hb
    rcases fold_bits acc j _ 0 hb with h1 | ⟨e,he,hbd,h1⟩
    ·simp at h1
    ·exact ⟨e,he,hbd,h1.imp id (ext _ _)⟩
structure DrawOk (all:Array Oper) (n:Nat):Prop where
 le:n≤all.size
 edge:∀ i o,all[i]? = some o→∀ e∈o.after,Region.binds .any e=true→e.on<i
 look:∀ i o,i<n→all[i]? = some o→∀ t∈o.looksAt all,∀ j o',all[j]? = some o'→o'.dst=some t→((masks all.toList []).getD i 0).testBit j=true
 dist:∀ i j o o' t,i<n→j<i→all[i]? = some o→all[j]? = some o'→o.dst=some t→o'.dst=some t→False
 tail:∀ i o,n≤i→all[i]? = some o→∀ j,j<i→((masks all.toList []).getD i 0).testBit j=true
 good:GoodM all.toList (masks all.toList [])
 len:(masks all.toList []).length=all.size
theorem mem_zipIdx' {all:Array Oper} {i:Nat} {o:Oper} (h:all[i]? = some o):(o,i)∈all.toList.zipIdx:=by
 rw [List.mem_zipIdx_iff_getElem?]; simpa using h
theorem drawB_ok {all:Array Oper} {n:Nat} (h:drawB all n=true):DrawOk all n:=by
 unfold drawB at h
 simp only [Bool.and_eq_true,decide_eq_true_eq] at h
 obtain ⟨h1,h2⟩:=h
 have hp:∀ i o,all[i]? = some o→_:=fun i o ho=>(List.all_eq_true.1 h1) (o,i) (mem_zipIdx' ho)
 obtain ⟨hg,hl⟩:=masks_good all.toList all.toList [] (by simp) (by simp) (fun i o hi=>by simp at hi)
 refine ⟨h2,fun i o ho e he hb=>?_,fun i o hi ho t ht j o' ho' hd=>?_,fun i j o o' t hi hj ho ho' hd hd'=>?_,fun i o hi ho j hj=>?_,hg,by simpa using hl⟩
 ·have:=hp i o ho
  simp only [Bool.and_eq_true] at this
  have h3:=(List.all_eq_true.1 this.1) e (by simpa using he)
  simpa [hb] using h3
 ·have:=hp i o ho
  simp only [Bool.and_eq_true,if_pos hi] at this
  have h3:=(List.all_eq_true.1 this.2.1) t ht
  have h4:=(List.all_eq_true.1 h3) (o',j) (mem_zipIdx' ho')
  simpa [hd] using h4
 ·have:=hp i o ho
  simp only [Bool.and_eq_true,if_pos hi] at this
  have h4:=(List.all_eq_true.1 this.2.2) (o',j) (mem_zipIdx' ho')
  simp [hd,hd',hj] at h4
 ·have:=hp i o ho
  simp only [Bool.and_eq_true,if_neg (Nat.not_lt.2 hi)] at this
  exact (List.all_eq_true.1 this.2) j (by simpa using hj)
def isB (v:SV) (c:Bool):Prop:=v = .pd (.raw (.bool c))∨v = .gd true (.pd (.raw (.bool c)))
def YG (dr:Bool) (P:Program) (all:Array Oper) (s:St) (o:Oper) (v:SV):Prop:=
 (o.guard=none∧Y dr P s.var s.row (evO s) o v) ∨
 (∃ j want t c v',o.guard=some (j,want)∧(all[j]?).bind (·.dst)=some t∧isB (s.get t) c∧v = .gd (c == want) v' ∧
  ((c == want)=true→gok (c == want) (o.op.operands.toList.map (evO s))∧Y dr P s.var s.row (evG s) o v')) ∨
 ∃ j want t,o.guard=some (j,want)∧(all[j]?).bind (·.dst)=some t∧((isB (s.get t) want∧Y dr P s.var s.row (evO s) o v)∨((isB (s.get t) (!want)∨s.get t = .tpl [])∧v = .tpl []))
def RY (C:Cx) (all:Array Oper) (tail:List Oper) (k:List KI):List Oper→St→Prop
 | [],s=>R C (.ops all tail::k) s
 | o::l,s=>∃ v,YG C.dr C.P all s o v∧dstOk s o∧RY C all tail k l (s.put o.dst v)
section
variable {C:Cx} {s s':St} {a:Act} {w w':World} {E:Env} {P:Program} {all:Array Oper} {k:List KI} {o:Oper}
theorem partsD_congr {ρ ρ':Operand→SV}:∀ (l:List (Nat × Operand)),(∀ p∈l,ρ p.2=ρ' p.2)→partsD ρ l=partsD ρ' l
 | [],_=>rfl
 | (i,x)::l,h=>by
  have h1:ρ x=ρ' x:=h (i,x) (List.mem_cons_self ..)
  simp only [partsD,h1,partsD_congr l (fun p hp=>h p (List.mem_cons_of_mem _ hp))]
theorem ay_congr {var:Nat→Option (List SV)} {row:Nat→Option Row} {ρ ρ':Operand→SV} (op:Op) (h:∀ x∈op.operands,ρ x=ρ' x):ay P ρ var row op=ay P ρ' var row op:=by
 cases op with
 | build t ps=>simp only [ay,partsD_congr ps.toList (fun p hp=>h p.2 (by simp only [Op.operands,List.mem_toArray,List.mem_map]; exact ⟨p,hp,rfl⟩))]
 | makeFunc fn first cs=>
  have:cs.toList.map ρ=cs.toList.map ρ':=List.map_congr_left fun x hx=>h x (by simp [Op.operands]; right; simpa using hx)
  cases fn <;> simp only [ay,this]
 | slice t x lo hi mx=>
  have hx:ρ x=ρ' x:=h x (by simp [Op.operands])
  have hlo:lo.map ρ=lo.map ρ':=by cases lo with | none=>rfl | some y=>simp [h y (by simp [Op.operands])]
  have hhi:hi.map ρ=hi.map ρ':=by cases hi with | none=>rfl | some y=>simp [h y (by simp [Op.operands])]
  cases mx <;> simp only [ay,hx,hlo,hhi]
 | call c=>
  obtain ⟨f,xs,ts⟩:=c
  simp only [ay,ayCall]
  split
  ·split
   ·split
    ·rename_i x t hx ht
     have:x∈xs:=by rw [← Array.mem_toList_iff,hx]; exact List.mem_cons_self ..
     rw [h x (by simp [Op.operands,Call.operands,this])]
    ·rfl
   ·split
    ·rename_i x y hx
     have h1:x∈xs:=by rw [← Array.mem_toList_iff,hx]; simp
     have h2:y∈xs:=by rw [← Array.mem_toList_iff,hx]; simp
     rw [h x (by simp [Op.operands,Call.operands,h1]),h y (by simp [Op.operands,Call.operands,h2])]
    ·rfl
   ·split
    ·rename_i x y hx
     have h1:x∈xs:=by rw [← Array.mem_toList_iff,hx]; simp
     have h2:y∈xs:=by rw [← Array.mem_toList_iff,hx]; simp
     rw [h x (by simp [Op.operands,Call.operands,h1]),h y (by simp [Op.operands,Call.operands,h2])]
    ·rfl
   ·rfl
  ·rfl
 | move x=>simp only [ay,h x (by simp [Op.operands])]
 | assign x=>simp only [ay,h x (by simp [Op.operands])]
 | pick c x y=>simp only [ay,h c (by simp [Op.operands]),h x (by simp [Op.operands]),h y (by simp [Op.operands])]
 | load t x=>simp only [ay,h x (by simp [Op.operands])]
 | nilCheck x=>simp only [ay,h x (by simp [Op.operands])]
 | binOp op t x y ty=>simp only [ay,h x (by simp [Op.operands]),h y (by simp [Op.operands])]
 | unOp op t x=>simp only [ay,h x (by simp [Op.operands])]
 | convert a b x=>simp only [ay,h x (by simp [Op.operands])]
 | makeInterface t x=>simp only [ay,h x (by simp [Op.operands])]
 | fieldAddr t x f=>simp only [ay,h x (by simp [Op.operands])]
 | field t x f=>simp only [ay,h x (by simp [Op.operands])]
 | indexAddr t x i=>simp only [ay,h x (by simp [Op.operands]),h i (by simp [Op.operands])]
 | index t x i=>simp only [ay,h x (by simp [Op.operands]),h i (by simp [Op.operands])]
 | extract x i=>simp only [ay,h x (by simp [Op.operands])]
 | _=>rfl
theorem Y.congr {dr:Bool} {var:Nat→Option (List SV)} {row:Nat→Option Row} {ρ ρ':Operand→SV} {v:SV} (h:∀ x∈o.op.operands,ρ x=ρ' x) (y:Y dr P var row ρ o v):Y dr P var row ρ' o v:=by
 cases y with
 | op vc v h1 hvc=>exact .op vc v (by rw [← ay_congr o.op h]; exact h1) hvc
 | call f xs ts args rs l ho hc hf hl=>
  have e:xs.toList.map ρ=xs.toList.map ρ':=List.map_congr_left fun x hx=>h x (by simp [ho,Op.operands,Call.operands]; right; simpa using hx)
  exact .call f xs ts args rs l ho (by rw [← e]; exact hc) hf hl
 | callW f xs ts args rs l hdr ho hc hf hl=>
  have e:xs.toList.map ρ=xs.toList.map ρ':=List.map_congr_left fun x hx=>h x (by simp [ho,Op.operands,Call.operands]; right; simpa using hx)
  exact .callW f xs ts args rs l hdr ho (by rw [← e]; exact hc) hf hl
 | callFn t xs ts F ds r ho ht hd hF=>
  have e:xs.toList.map ρ=xs.toList.map ρ':=List.map_congr_left fun x hx=>h x (by simp [ho,Op.operands,Call.operands]; right; simpa using hx)
  exact .callFn t xs ts F ds r ho (by rw [← h _ (by simp [ho,Op.operands,Call.operands])]; exact ht) (by rw [← e]; exact hd) hF
 | callRaw t f xs ts args rs l ho ht hc hf hl=>
  have e:xs.toList.map ρ=xs.toList.map ρ':=List.map_congr_left fun x hx=>h x (by simp [ho,Op.operands,Call.operands]; right; simpa using hx)
  exact .callRaw t f xs ts args rs l ho (by rw [← h _ (by simp [ho,Op.operands,Call.operands])]; exact ht) (by rw [← e]; exact hc) hf hl
 | callClo t f ds xs ts args rs l ho ht hc hf hl=>
  have e:xs.toList.map ρ=xs.toList.map ρ':=List.map_congr_left fun x hx=>h x (by simp [ho,Op.operands,Call.operands]; right; simpa using hx)
  exact .callClo t f ds xs ts args rs l ho (by rw [← h _ (by simp [ho,Op.operands,Call.operands])]; exact ht) (by rw [← e]; exact hc) hf hl
 | look t x k ok ks ds key kt e td d ho hx hk ht fd h1=>
  exact .look t x k ok ks ds key kt e td d ho (by rw [← h _ (by simp [ho,Op.operands])]; exact hx) (by rw [← h _ (by simp [ho,Op.operands])]; exact hk) ht fd h1
 | slice t e n sz parts ds ho he hz h0 hn hp hd hw hzero=>
  have e1:(parts.toList.map fun p=>ρ p.2)=parts.toList.map fun p=>ρ' p.2:=List.map_congr_left fun p hp=>h p.2 (by simp only [ho,Op.operands,List.mem_toArray,List.mem_map]; exact ⟨p,hp,rfl⟩)
  exact .slice t e n sz parts ds ho he hz h0 hn hp (by rw [← e1]; exact hd) hw hzero
 | alloc t zs ho hz h1=>exact .alloc t zs ho hz h1
theorem evO_congr {x:Operand} (h:∀ t,x = .tmp t→s'.get t=s.get t):evO s' x=evO s x:=by
 cases x with
 | tmp t=>simp only [evO,h t rfl]
 | _=>rfl
theorem mem_looks {t:Nat} (h:.tmp t∈o.op.operands):t∈o.looksAt all:=
 List.mem_append_left _ (List.mem_filterMap.2 ⟨.tmp t,by simpa using h,rfl⟩)
theorem YG.congr {dr:Bool} {v:SV} (hl:∀ t∈o.looksAt all,s'.get t=s.get t) (hv:s'.vars=s.vars) (hr:s'.rows=s.rows) (y:YG dr P all s o v):YG dr P all s' o v:=by
 have e1:∀ x∈o.op.operands,evO s x=evO s' x:=fun x hx=>(evO_congr fun t ht=>hl t (mem_looks (by rw [← ht]; exact hx))).symm
 have hvar:s'.var=s.var:=by funext t; simp [St.var,hv]
 have hrow:s'.row=s.row:=by funext t; simp [St.row,hr]
 rcases y with ⟨h1,h2⟩ | ⟨j,want,t,c,v',h1,h2,h3,h4,h5⟩ | ⟨j,want,t,h1,h2,h3⟩
 ·exact .inl ⟨h1,by rw [hvar,hrow]; exact h2.congr e1⟩
 ·have ht:t∈o.looksAt all:=by
   refine List.mem_append_right _ ?_
   simp only [h1,h2]; simp
  refine .inr (.inl ⟨j,want,t,c,v',h1,h2,by rw [hl t ht]; exact h3,h4,fun hc=>?_⟩)
  obtain ⟨h6,h7⟩:=h5 hc
  have e2:o.op.operands.toList.map (evO s)=o.op.operands.toList.map (evO s'):=List.map_congr_left fun x hx=>e1 x (by simpa using hx)
  exact ⟨by rw [← e2]; exact h6,by rw [hvar,hrow]; exact h7.congr fun x hx=>by simp only [evG,e1 x hx]⟩
 ·have ht:t∈o.looksAt all:=by
   refine List.mem_append_right _ ?_
   simp only [h1,h2]; simp
  refine .inr (.inr ⟨j,want,t,h1,h2,?_⟩)
  rw [hl t ht]
  rcases h3 with ⟨h4,h5⟩ | h4
  ·exact .inl ⟨h4,by rw [hvar,hrow]; exact h5.congr e1⟩
  ·exact .inr h4
theorem wanted_eqB (g:Gam C s a w E) {j t:Nat} {want c:Bool} (hg:o.guard=some (j,want)) (hj:(all[j]?).bind (·.dst)=some t) (hc:isB (s.get t) c):Region.wanted o (yielded all a.tmps)=(c == want):=by
 have hb:a.tmps.getD t undef = .bool c:=by
  rcases hc with hc | hc
  ·exact g.bool hc
  ·have:=g.slots t
   rw [hc] at this
   have this:Rel C.P w E s.row (a.tmps.getD t undef) (.pd (.raw (.bool c))):=this rfl
   exact RdV.raw_eq this
 have hlt:t<a.tmps.size:=by
  rcases Nat.lt_or_ge t a.tmps.size with h | h
  ·exact h
  ·simp [Array.getD,Nat.not_lt.2 h,undef] at hb
 have ht:a.tmps[t]? = some (.bool c):=by
  simp [Array.getD,hlt] at hb
  simp [hlt,hb]
 simp only [Region.wanted,hg,yielded,hj,Option.bind_some,ht]
 cases c <;> cases want <;> rfl
theorem wanted_tplB (g:Gam C s a w E) {j t:Nat} {want:Bool} (hg:o.guard=some (j,want)) (hj:(all[j]?).bind (·.dst)=some t) (hc:s.get t = .tpl []):Region.wanted o (yielded all a.tmps)=false:=by
 have h:=g.slots t
 rw [hc] at h
 obtain ⟨vs,hv,_⟩:=h
 simp only [Region.wanted,hg,yielded,hj,Option.bind_some]
 have:a.tmps[t]? = none∨a.tmps[t]? = some (.tuple vs):=by
  cases h:a.tmps[t]? with
  | none=>exact .inl rfl
  | some u=>rw [Array.getD_eq_getD_getElem?,h] at hv; simp only [Option.getD_some] at hv; exact .inr (by rw [hv])
 rcases this with h | h <;> rw [h] <;> rfl
theorem YG.step {i:Nat} {v:SV} (g:Gam C s a w E) (ho:all[i]? = some o) (hd:dstOk s o) (y:YG C.dr C.P all s o v) {K:Act→World→Prop} {Q:Exit→Act→World→Prop}
  (hK:∀ u w' E',Gam C (s.put o.dst v) (a.put o.dst u) w' E'→K (a.put o.dst u) w'):wpOp C.P all Q i K a w:=by
 unfold wpOp
 simp only [ho]
 rcases y with ⟨h1,h2⟩ | ⟨j,want,t,c,v',h1,h2,h3,rfl,h5⟩ | ⟨j,want,t,h1,h2,h3⟩
 ·rw [if_pos (by simp [Region.wanted,h1])]
  exact .inl (Y.ok g (fun x _=>evO_ok g x) hd h2 hK)
 ·rw [wanted_eqB g h1 h2 h3]
  split
  ·rename_i hw
   obtain ⟨h6,h7⟩:=h5 hw
   exact .inl (Y.ok g (evG_ok g hw h6) hd h7 fun u w' E' g'=>hK u w' E' (g'.weak (St.le_put s o.dst v' _ (.gd _ _))))
  ·rename_i hw
   exact hK _ _ _ (g.putO hd (fun h=>(hw h).elim) (by simp))
 ·rcases h3 with ⟨h4,h5⟩ | ⟨h4,rfl⟩
  ·rw [wanted_eqB g h1 h2 h4,if_pos (by simp)]
   exact .inl (Y.ok g (fun x _=>evO_ok g x) hd h5 hK)
  ·have hw:Region.wanted o (yielded all a.tmps)=false:=by
    rcases h4 with h4 | h4
    ·rw [wanted_eqB g h1 h2 h4]; cases want <;> rfl
    ·exact wanted_tplB g h1 h2 h4
   rw [hw,if_neg (by simp)]
   exact hK undef _ _ (g.putO hd (v:=.tpl []) ⟨#[],rfl,rfl,fun j hj=>by simp at hj⟩ (by simp))
def pre (s:St):List (Oper × SV)→St
 | []=>s
 | (o,v)::l=>pre (s.put o.dst v) l
theorem pre_append (s:St):∀ (l l':List (Oper × SV)),pre s (l++l')=pre (pre s l) l'
 | [],_=>rfl
 | (_,_)::l,l'=>pre_append _ l l'
theorem pre_same (s:St):∀ (l:List (Oper × SV)),(pre s l).n=s.n∧(pre s l).vars=s.vars∧(pre s l).rows=s.rows∧(pre s l).maps=s.maps∧(pre s l).gs=s.gs
 | []=>⟨rfl,rfl,rfl,rfl,rfl⟩
 | (o,v)::l=>by
  obtain ⟨h1,h2,h3,h4,h5⟩:=pre_same (s.put o.dst v) l
  have:(s.put o.dst v).n=s.n∧(s.put o.dst v).vars=s.vars∧(s.put o.dst v).rows=s.rows∧(s.put o.dst v).maps=s.maps∧(s.put o.dst v).gs=s.gs:=by cases o.dst <;> exact ⟨rfl,rfl,rfl,rfl,rfl⟩
  exact ⟨h1.trans this.1,h2.trans this.2.1,h3.trans this.2.2.1,h4.trans this.2.2.2.1,h5.trans this.2.2.2.2⟩
theorem get_put (s:St) (dst:Option Nat) (v:SV) (t:Nat):(s.put dst v).get t=if dst=some t then v else s.get t:=by
 cases dst with
 | none=>simp [St.put]
 | some d=>simp only [St.put,St.get_set,Option.some.injEq,eq_comm]
theorem pre_none (t:Nat):∀ (l:List (Oper × SV)) (s:St),(∀ p∈l,p.1.dst≠some t)→(pre s l).get t=s.get t
 | [],_,_=>rfl
 | (o,v)::l,s,h=>by
  have:=pre_none t l (s.put o.dst v) (fun p hp=>h p (List.mem_cons_of_mem _ hp))
  simp only [pre,this,get_put]
  rw [if_neg (h (o,v) (List.mem_cons_self ..))]
theorem pre_some (t:Nat) (l1 l2:List (Oper × SV)) (o:Oper) (v:SV) (s:St) (hd:o.dst=some t) (h:∀ p∈l2,p.1.dst≠some t):(pre s (l1++(o,v)::l2)).get t=v:=by
 rw [pre_append]
 simp only [pre]
 rw [pre_none t l2 _ h,get_put,if_pos hd]
theorem RY.unfold (tail:List Oper):∀ (l:List Oper) (s:St),RY C all tail k l s→∃ vs:List SV,vs.length=l.length∧R C (.ops all tail::k) (pre s (l.zip vs)) ∧
   ∀ i o,l[i]? = some o→YG C.dr C.P all (pre s ((l.zip vs).take i)) o (vs.getD i .dead)∧dstOk s o
 | [],s,h=>⟨[],rfl,h,fun i o ho=>by simp at ho⟩
 | o::l,s,h=>by
  simp only [RY] at h
  obtain ⟨v,h1,h2,h3⟩:=h
  obtain ⟨vs,hl,hr,hy⟩:=RY.unfold tail l _ h3
  refine ⟨v::vs,by simp [hl],hr,fun i o' ho=>?_⟩
  cases i with
  | zero=>simp at ho; subst ho; exact ⟨h1,h2⟩
  | succ i=>
   have:=hy i o' (by simpa using ho)
   refine ⟨by simpa [pre] using this.1,fun t ht=>?_⟩
   have h4:=this.2 t ht
   cases hd:o.dst <;> simpa [St.put,St.set,hd] using h4
structure At (all:Array Oper) (n:Nat) (vs:List SV) (s s':St) (L:Array Bool):Prop where
 size:L.size=all.size
 closed:∀ i o,L.getD i false=true→all[i]? = some o→∀ e∈o.after,Region.binds .any e=true→L.getD e.on false=true
 tail:∀ i,n≤i→L.getD i false=false
 sn:s'.n=s.n
 sv:s'.vars=s.vars
 sr:s'.rows=s.rows
 sm:s'.maps=s.maps
 sg:s'.gs=s.gs
 done:∀ i o t,i<n→L.getD i false=true→all[i]? = some o→o.dst=some t→s'.get t=vs.getD i .dead
 rest:∀ t,(∀ i o,i<n→L.getD i false=true→all[i]? = some o→o.dst≠some t)→s'.get t=s.get t
theorem anc_listed {n:Nat} (D:DrawOk all n) {L:Array Bool} (hc:∀ i o,L.getD i false=true→all[i]? = some o→∀ e∈o.after,Region.binds .any e=true→L.getD e.on false=true) (hs:L.size=all.size):
  ∀ i o,all[i]? = some o→(∀ e∈o.after,Region.binds .any e=true→L.getD e.on false=true)→∀ j,((masks all.toList []).getD i 0).testBit j=true→L.getD j false=true∧j<i:=by
 intro i
 induction i using Nat.strongRecOn with
 | _ i ih=>
  intro o ho he j hb
  have hi:i<all.size:=(Array.getElem?_eq_some_iff.1 ho).1
  obtain ⟨e,hem,hbd,h1⟩:=D.good i o (by rw [D.len]; exact hi) (by simpa using ho) j hb
  have hem':e∈o.after:=by simpa using hem
  have hlt:=D.edge i o ho e hem' hbd
  have hL:=he e hem' hbd
  rcases h1 with h1 | h1
  ·subst h1; exact ⟨hL,hlt⟩
  ·have h2:e.on<all.size:=by omega
   have h3:all[e.on]? = some all[e.on]:=by simp [h2]
   have:=ih e.on hlt all[e.on] h3 (hc e.on _ hL h3) j h1
   exact ⟨this.1,by omega⟩
theorem getD_true_false {L:Array Bool} {i:Nat} (h:i<L.size):L.getD i true=L.getD i false:=by simp [Array.getD,h]
theorem getD_set_self {L:Array Bool} {i:Nat} (h:i<L.size) (d:Bool):(L.setIfInBounds i true).getD i d=true:=by simp [Array.getD,h]
theorem draw_tail {n:Nat} (D:DrawOk all n) {Q:Exit→Act→World→Prop}:∀ (l:List Oper) (m:Nat) (L:Array Bool) (fuel:Nat) (a:Act) (w:World),n≤m→m+l.length=all.size→(∀ j,l[j]? = all[m+j]?)→l.length≤fuel→L.size=all.size →
  (∀ i,i<all.size→L.getD i false=decide (i<m))→wpList C.P all Q l a w→wpAny C.P .any all Q fuel L a w
 | [],m,L,fuel,a,w,hn,hm,hl,hf,hs,hL,h=>by
  have hr:Region.ready .any all L=[]:=by
   apply List.eq_nil_iff_forall_not_mem.2
   intro i hi
   obtain ⟨h1,o,ho,_⟩:=mem_ready.1 hi
   have hlt:=(Array.getElem?_eq_some_iff.1 ho).1
   rw [getD_true_false (by omega),hL i hlt] at h1
   simp at h1 hm; omega
  cases fuel with
  | zero=>exact ⟨hr,h⟩
  | succ f=>exact ⟨fun _=>h,fun i hi=>by rw [hr] at hi; cases hi⟩
 | o::l,m,L,fuel,a,w,hn,hm,hl,hf,hs,hL,h=>by
  simp only [List.length_cons] at hm hf
  have ho:all[m]? = some o:=by have:=hl 0; simpa using this.symm
  have hmlt:m<all.size:=by omega
  have hready:m∈Region.ready .any all L:=mem_ready.2 ⟨by rw [getD_true_false (by omega),hL m hmlt]; simp,o,ho,fun e he hb=>by
   have:=D.edge m o ho e he hb
   rw [hL e.on (by omega)]; simpa using this⟩
  have honly:∀ i,i∈Region.ready .any all L→i=m:=by
   intro i hi
   obtain ⟨h1,o',ho',hall⟩:=mem_ready.1 hi
   have hlt:=(Array.getElem?_eq_some_iff.1 ho').1
   rw [getD_true_false (by omega),hL i hlt] at h1
   simp at h1
   rcases Nat.lt_or_ge m i with c | c
   ·have hbit:=D.tail i o' (by omega) ho' m c
    have hcl:∀ i o,L.getD i false=true→all[i]? = some o→∀ e∈o.after,Region.binds .any e=true→L.getD e.on false=true:=by
     intro i2 o2 h2 ho2 e he hb
     have h3:=(Array.getElem?_eq_some_iff.1 ho2).1
     rw [hL i2 h3] at h2
     have h4:=D.edge i2 o2 ho2 e he hb
     rw [hL e.on (by omega)]
     simp at h2 ⊢; omega
    have:=(anc_listed D hcl hs i o' ho' hall m hbit).1
    rw [hL m hmlt] at this
    simp at this
   ·omega
  cases fuel with
  | zero=>omega
  | succ f=>
   refine ⟨fun hnil=>(by rw [hnil] at hready; cases hready),fun i hi=>?_⟩
   obtain rfl:=honly i hi
   have hw:wpOp C.P all Q i (wpList C.P all Q l) a w:=by
    unfold wpOp
    simp only [ho]
    exact h
   refine wpOp_mono (fun a' w' h'=>?_) hw
   refine draw_tail D l (i+1) _ f a' w' (by omega) (by omega) (fun j=>?_) (by omega) (by simpa using hs) (fun i' hi'=>?_) h'
   ·have:=hl (j+1); simp only [List.getElem?_cons_succ] at this; rw [this]; congr 1; omega
   ·by_cases c:i'=i
    ·subst c; rw [getD_set_self (by omega)]; simp
    ·rw [getD_set_ne false (Ne.symm c),hL i' hi']
     simp; omega
def cnt (L:Array Bool):Nat:=L.toList.countP (fun b=>!b)
theorem cnt_set {L:Array Bool} {i:Nat} (h:i<L.size) (hf:L.getD i false=false):cnt (L.setIfInBounds i true)+1=cnt L:=by
 unfold cnt
 have hl:i<L.toList.length:=by simpa using h
 have hv:L.toList[i]=false:=by simpa [Array.getD,h] using hf
 have e1:L.toList=L.toList.take i++L.toList[i]::L.toList.drop (i+1):=by
  rw [← List.drop_eq_getElem_cons hl,List.take_append_drop]
 have e2:(L.setIfInBounds i true).toList=L.toList.take i++true::L.toList.drop (i+1):=by
  rw [Array.toList_setIfInBounds,List.set_eq_take_append_cons_drop,if_pos hl]
 rw [e2]
 conv=>rhs; rw [e1]
 simp [List.countP_append,List.countP_cons,hv]; omega
theorem cnt_zero {L:Array Bool} (h:cnt L=0):∀ i,i<L.size→L.getD i false=true:=by
 intro i hi
 unfold cnt at h
 rw [List.countP_eq_zero] at h
 have:=h L.toList[i] (List.getElem_mem (by simpa using hi))
 simpa [Array.getD,hi] using this
theorem draw_any {n:Nat} (D:DrawOk all n) {vs:List SV} (hvl:vs.length=n) (hr:R C (.ops all (all.toList.drop n)::k) (pre s ((all.toList.take n).zip vs)))
  (hy:∀ i o,(all.toList.take n)[i]? = some o→YG C.dr C.P all (pre s (((all.toList.take n).zip vs).take i)) o (vs.getD i .dead)∧dstOk s o):
  ∀ (fuel:Nat) (L:Array Bool) (s':St) (a:Act) (w:World) (E:Env),At all n vs s s' L→cnt L≤fuel→Gam C s' a w E→wpAny C.P .any all (fin C k) fuel L a w:=by
 have hnle:=D.le
 have zget:∀ i o,i<n→all[i]? = some o→((all.toList.take n).zip vs)[i]? = some (o,vs.getD i .dead):=by
  intro i o hi ho
  have h1:(all.toList.take n)[i]? = some o:=by rw [List.getElem?_take,if_pos hi]; simpa using ho
  have h2:vs[i]? = some (vs.getD i .dead):=by rw [List.getD_eq_getElem?_getD,List.getElem?_eq_getElem (by omega)]; rfl
  rw [List.getElem?_zip_eq_some]; exact ⟨h1,h2⟩
 have preGet:∀ m,m≤n→∀ t,(∀ i o,i<m→all[i]? = some o→o.dst=some t→(pre s (((all.toList.take n).zip vs).take m)).get t=vs.getD i .dead) ∧
   ((∀ i o,i<m→all[i]? = some o→o.dst≠some t)→(pre s (((all.toList.take n).zip vs).take m)).get t=s.get t):=by
  intro m hm t
  have zl:((all.toList.take n).zip vs).length=n:=by simp [hvl]; omega
  have memz:∀ p j,((all.toList.take n).zip vs)[j]? = some p→all[j]? = some p.1∧j<n:=by
   intro p j hp
   have hj:j<n:=by rw [← zl]; exact (List.getElem?_eq_some_iff.1 hp).1
   rw [List.getElem?_zip_eq_some] at hp
   have:=hp.1
   rw [List.getElem?_take,if_pos hj] at this
   exact ⟨by simpa using this,hj⟩
  constructor
  ·intro i o hi ho hd
   have hz:=zget i o (by omega) ho
   have hil:i<((all.toList.take n).zip vs).length:=by omega
   have hsplit:((all.toList.take n).zip vs).take m=((all.toList.take n).zip vs).take i++(o,vs.getD i .dead)::(((all.toList.take n).zip vs).take m).drop (i+1):=by
    have e1:(((all.toList.take n).zip vs).take m)[i]? = some (o,vs.getD i .dead):=by rw [List.getElem?_take,if_pos hi]; exact hz
    have hl2:i<(((all.toList.take n).zip vs).take m).length:=(List.getElem?_eq_some_iff.1 e1).1
    have e2:(((all.toList.take n).zip vs).take m)[i]=(o,vs.getD i .dead):=(List.getElem?_eq_some_iff.1 e1).2
    have e3:=List.take_append_drop i (((all.toList.take n).zip vs).take m)
    rw [List.drop_eq_getElem_cons hl2,e2,List.take_take,Nat.min_eq_left (by omega)] at e3
    exact e3.symm
   rw [hsplit]
   refine pre_some t _ _ o _ s hd (fun p hp=>?_)
   obtain ⟨q,hq,rfl⟩:=List.getElem_of_mem hp
   intro hpd
   have hq2:((((all.toList.take n).zip vs).take m).drop (i+1))[q]? = some (((((all.toList.take n).zip vs).take m).drop (i+1))[q]):=List.getElem?_eq_getElem hq
   rw [List.getElem?_drop,List.getElem?_take] at hq2
   split at hq2
   ·obtain ⟨h3,h4⟩:=memz _ _ hq2
    exact D.dist (i+1+q) i _ o t h4 (by omega) h3 ho hpd hd
   ·cases hq2
  ·intro hno
   refine pre_none t _ s (fun p hp=>?_)
   obtain ⟨q,hq,rfl⟩:=List.getElem_of_mem hp
   have hq2:(((all.toList.take n).zip vs).take m)[q]? = some ((((all.toList.take n).zip vs).take m)[q]):=List.getElem?_eq_getElem hq
   rw [List.getElem?_take] at hq2
   split at hq2
   ·obtain ⟨h3,h4⟩:=memz _ _ hq2
    exact hno q _ (by omega) h3
   ·cases hq2
 intro fuel
 induction fuel with
 | zero=>
  intro L s' a w E A hcnt g
  have hall:=cnt_zero (Nat.le_zero.1 hcnt)
  have hn:n=all.size:=by
   rcases Nat.lt_or_ge n all.size with h | h
   ·have h1:=A.tail n (Nat.le_refl _); rw [hall n (by rw [A.size]; exact h)] at h1; cases h1
   ·omega
  have hle:St.le s' (pre s ((all.toList.take n).zip vs)):=by
   have hps:=pre_same s ((all.toList.take n).zip vs)
   have hpg:=preGet n (Nat.le_refl _)
   have ht:((all.toList.take n).zip vs).take n=(all.toList.take n).zip vs:=List.take_of_length_le (by simp [hvl]; omega)
   simp only [ht] at hpg
   refine ⟨hps.1.trans A.sn.symm,fun t=>?_,fun t cs h=>⟨cs,by simpa [St.var,hps.2.1,A.sv] using h,rfl,fun _ _=>.same _⟩,fun i r h=>by simpa [St.row,hps.2.2.1,A.sr] using h,fun r m h=>by simpa [St.map,hps.2.2.2.1,A.sm] using h,fun t=>by simp only [St.gget,hps.2.2.2.2,A.sg]; exact .same _⟩
   by_cases c:∃ (i:Nat) (o:Oper),i<n∧all[i]? = some o∧o.dst=some t
   ·obtain ⟨i,o,hi,ho,hd⟩:=c
    rw [(hpg t).1 i o hi ho hd,A.done i o t hi (hall i (by rw [A.size]; omega)) ho hd]; exact .same _
   ·have c':∀ i o,i<n→all[i]? = some o→o.dst≠some t:=fun i o hi ho hd=>c ⟨i,o,hi,ho,hd⟩
    rw [(hpg t).2 c',A.rest t (fun i o hi _ ho=>c' i o hi ho)]; exact .same _
  have hw:=hr a w E (g.weak hle)
  simp only [fin] at hw
  exact draw_tail D _ n L 0 a w (Nat.le_refl _) (by simp; omega) (fun j=>by simp) (by simp; omega) A.size (fun i hi=>by rw [hall i (by rw [A.size]; exact hi)]; simp; omega) hw
 | succ fuel ih=>
  intro L s' a w E A hcnt g
  by_cases hpure:∀ i,i<n→L.getD i false=true
  ·
   have hle:St.le s' (pre s ((all.toList.take n).zip vs)):=by
    have hps:=pre_same s ((all.toList.take n).zip vs)
    have hpg:=preGet n (Nat.le_refl _)
    have ht:((all.toList.take n).zip vs).take n=(all.toList.take n).zip vs:=List.take_of_length_le (by simp [hvl]; omega)
    simp only [ht] at hpg
    refine ⟨hps.1.trans A.sn.symm,fun t=>?_,fun t cs h=>⟨cs,by simpa [St.var,hps.2.1,A.sv] using h,rfl,fun _ _=>.same _⟩,fun i r h=>by simpa [St.row,hps.2.2.1,A.sr] using h,fun r m h=>by simpa [St.map,hps.2.2.2.1,A.sm] using h,fun t=>by simp only [St.gget,hps.2.2.2.2,A.sg]; exact .same _⟩
    by_cases c:∃ (i:Nat) (o:Oper),i<n∧all[i]? = some o∧o.dst=some t
    ·obtain ⟨i,o,hi,ho,hd⟩:=c
     rw [(hpg t).1 i o hi ho hd,A.done i o t hi (hpure i hi) ho hd]; exact .same _
    ·have c':∀ i o,i<n→all[i]? = some o→o.dst≠some t:=fun i o hi ho hd=>c ⟨i,o,hi,ho,hd⟩
     rw [(hpg t).2 c',A.rest t (fun i o hi _ ho=>c' i o hi ho)]; exact .same _
   have hw:=hr a w E (g.weak hle)
   simp only [fin] at hw
   have hLd:∀ i,i<all.size→L.getD i false=decide (i<n):=by
    intro i hi
    by_cases c:i<n
    ·rw [hpure i c]; simp [c]
    ·rw [A.tail i (by omega)]; simp [c]
   have hc2:all.size - n≤cnt L:=by
    unfold cnt
    have e1:L.toList=L.toList.take n++L.toList.drop n:=(List.take_append_drop n _).symm
    rw [e1,List.countP_append]
    have e2:(L.toList.drop n).countP (fun b=>!b)=(L.toList.drop n).length:=by
     rw [List.countP_eq_length]
     intro b hb
     obtain ⟨q,hq,rfl⟩:=List.getElem_of_mem hb
     have hql:n+q<L.size:=by simpa [Nat.lt_sub_iff_add_lt,Nat.add_comm] using hq
     have:=A.tail (n+q) (by omega)
     have h3:L.getD (n+q) false=L[n+q]:=by simp [Array.getD,hql]
     simp only [List.getElem_drop,Array.getElem_toList]
     rw [← h3,this]; rfl
    rw [e2]
    have:=A.size
    simp; omega
   exact draw_tail D _ n L (fuel+1) a w (Nat.le_refl _) (by simp; omega) (fun j=>by simp) (by simp; omega) A.size hLd hw
  ·
   have hex:∃ i,i<n∧L.getD i false=false:=by
    apply Classical.byContradiction
    intro hno
    refine hpure fun i hi=>?_
    cases hb:L.getD i false with
    | true=>rfl
    | false=>exact (hno ⟨i,hi,hb⟩).elim
   obtain ⟨i0,⟨hi0,hf0⟩,hmin⟩:=exists_least (p:=fun i=>i<n∧L.getD i false=false) hex
   refine ⟨fun hnil=>?_,fun i hi=>?_⟩
   ·have hlt:i0<all.size:=by omega
    have ho0:all[i0]? = some all[i0]:=by simp [hlt]
    have:i0∈Region.ready .any all L:=mem_ready.2 ⟨by rw [getD_true_false (by rw [A.size]; exact hlt)]; exact hf0,all[i0],ho0,fun e he hb=>by
     have hel:=D.edge i0 _ ho0 e he hb
     cases hb2:L.getD e.on false with
     | true=>rfl
     | false=>have:=hmin e.on ⟨by omega,hb2⟩; omega⟩
    rw [hnil] at this; cases this
   ·obtain ⟨hun,o,ho,hall⟩:=mem_ready.1 hi
    have hlt:=(Array.getElem?_eq_some_iff.1 ho).1
    have hunf:L.getD i false=false:=by rw [← getD_true_false (by rw [A.size]; exact hlt)]; exact hun
    have hin:i<n:=by
     rcases Nat.lt_or_ge i n with h | h
     ·exact h
     ·have hbit:=D.tail i o h ho i0 (by omega)
      have:=(anc_listed D A.closed A.size i o ho hall i0 hbit).1
      rw [hf0] at this; cases this
    have hoT:(all.toList.take n)[i]? = some o:=by rw [List.getElem?_take,if_pos hin]; simpa using ho
    obtain ⟨hY,hdo⟩:=hy i o hoT
    have hps:=pre_same s (((all.toList.take n).zip vs).take i)
    have hlook:∀ t∈o.looksAt all,s'.get t=(pre s (((all.toList.take n).zip vs).take i)).get t:=by
     intro t ht
     have hpg:=preGet i (by omega) t
     by_cases c:∃ (j:Nat) (o':Oper),all[j]? = some o'∧o'.dst=some t
     ·obtain ⟨j,o',ho',hd'⟩:=c
      have hbit:=D.look i o hin ho t ht j o' ho' hd'
      obtain ⟨hLj,hji⟩:=anc_listed D A.closed A.size i o ho hall j hbit
      rw [hpg.1 j o' hji ho' hd',A.done j o' t (by omega) hLj ho' hd']
     ·have c':∀ (j:Nat) (o':Oper),all[j]? = some o'→o'.dst≠some t:=fun j o' ho' hd'=>c ⟨j,o',ho',hd'⟩
      rw [hpg.2 (fun j o' _ ho'=>c' j o' ho'),A.rest t (fun j o' _ _ ho'=>c' j o' ho')]
    have hY':=hY.congr hlook (by rw [hps.2.1]; exact A.sv) (by rw [hps.2.2.1]; exact A.sr)
    have hd':dstOk s' o:=fun t ht=>by rw [A.sn]; exact hdo t ht
    refine YG.step g ho hd' hY' fun u w' E' g'=>?_
    refine ih _ (s'.put o.dst (vs.getD i .dead)) _ w' E' ?_ (by have:=cnt_set (L:=L) (i:=i) (by rw [A.size]; exact hlt) hunf; omega) g'
    have hset:∀ j,(L.setIfInBounds i true).getD j false=if j=i then true else L.getD j false:=by
     intro j
     by_cases c:j=i
     ·subst c; rw [if_pos rfl,getD_set_self (by rw [A.size]; exact hlt)]
     ·rw [if_neg c,getD_set_ne false (Ne.symm c)]
    have hsame:(s'.put o.dst (vs.getD i .dead)).n=s'.n∧(s'.put o.dst (vs.getD i .dead)).vars=s'.vars∧(s'.put o.dst (vs.getD i .dead)).rows=s'.rows∧(s'.put o.dst (vs.getD i .dead)).maps=s'.maps∧(s'.put o.dst (vs.getD i .dead)).gs=s'.gs:=by cases o.dst <;> exact ⟨rfl,rfl,rfl,rfl,rfl⟩
    exact {
     size:=by simpa using A.size
     closed:=fun j o' hj ho' e he hb=>by
      rw [hset] at hj ⊢
      split
      ·rfl
      ·split at hj
       ·rename_i h; subst h; rw [ho] at ho'; cases ho'; exact hall e he hb
       ·exact A.closed j o' hj ho' e he hb
     tail:=fun j hj=>by rw [hset,if_neg (by omega)]; exact A.tail j hj
     sn:=hsame.1.trans A.sn
     sv:=hsame.2.1.trans A.sv
     sr:=hsame.2.2.1.trans A.sr
     sm:=hsame.2.2.2.1.trans A.sm
     sg:=hsame.2.2.2.2.trans A.sg
     done:=fun j o' t hj hL ho' hd=>by
      rw [get_put]
      rw [hset] at hL
      by_cases c:j=i
      ·subst c; rw [ho] at ho'; cases ho'; rw [if_pos hd]
      ·rw [if_neg c] at hL
       rw [if_neg]
       ·exact A.done j o' t hj hL ho' hd
       ·intro hdi
        rcases Nat.lt_or_gt_of_ne c with c | c
        ·exact D.dist i j o o' t hin c ho ho' hdi hd
        ·exact D.dist j i o' o t hj c ho' ho hd hdi
     rest:=fun t hno=>by
      rw [get_put,if_neg (hno i o hin (by rw [hset,if_pos rfl]) ho)]
      exact A.rest t fun j o' hj hL ho'=>hno j o' hj (by rw [hset]; split; rfl; exact hL) ho' }
theorem R.draw {id:Nat} (n:Nat) (hm:C.P.follows .mixedOrders=true) (hB:drawB all n=true) (h:RY C all (all.toList.drop n) k (all.toList.take n) s):R C (.code (.region id all true)::k) s:=by
 intro a w E g
 have D:=drawB_ok hB
 obtain ⟨vs,hl,hr,hy⟩:=RY.unfold _ _ _ h
 refine wp_region_any hm ?_
 refine draw_any D (by have:=D.le; simp at hl; omega) hr hy all.size (Array.replicate all.size false) s a _ E ?_ ?_ g.drew
 ·exact {
   size:=by simp
   closed:=fun i o hi=>by simp [Array.getD] at hi
   tail:=fun i _=>by simp [Array.getD]
   sn:=rfl
   sv:=rfl
   sr:=rfl
   sm:=rfl
   sg:=rfl
   done:=fun i o t _ hi=>by simp [Array.getD] at hi
   rest:=fun _ _=>rfl }
 ·unfold cnt; exact Nat.le_trans List.countP_le_length (by simp)
end
end Go.Abs
end
section
namespace Go.Abs
section
variable {C:Cx} {s:St} {all:Array Oper} {k:List KI} {P:Program} {Q:Exit→Act→World→Prop}
theorem ready_all {L:Array Bool} (hE:(all.toList.zipIdx).all (fun p=>edgesB p.2 p.1)=true) (hs:L.size=all.size) (h:Region.ready .any all L=[]):L=Array.replicate all.size true:=by
 have hall:∀ i,i<L.size→L.getD i false=true:=by
  intro i
  induction i using Nat.strongRecOn with
  | _ i ih=>
   intro hi
   cases hb:L.getD i false with
   | true=>rfl
   | false=>
    have hia:i<all.size:=by omega
    have ho:all[i]? = some all[i]:=by simp [hia]
    have hed:=(List.all_eq_true.1 hE) (all[i],i) (mem_zipIdx' ho)
    have:i∈Region.ready .any all L:=mem_ready.2 ⟨by rw [getD_true_false hi]; exact hb,all[i],ho,fun e he hbd=>by
     have h3:=(List.all_eq_true.1 hed) e (by simpa using he)
     have h4:e.on<i:=by simpa [hbd] using h3
     exact ih e.on h4 (by omega)⟩
    rw [h] at this; cases this
 apply Array.ext
 ·simp [hs]
 ·intro i h1 h2
  have:=hall i h1
  simp only [Array.getElem_replicate]
  simpa [Array.getD,h1] using this
theorem wp_region_J {id:Nat} {a:Act} {w:World} (hm:P.follows .mixedOrders=true) (hE:(all.toList.zipIdx).all (fun p=>edgesB p.2 p.1)=true) (J:Array Bool→Act→World→Prop)
  (h0:J (Array.replicate all.size false) a { w with drawn:=w.drawn+1 })
  (step:∀ (L:Array Bool) (a:Act) (w:World) (i:Nat) (o:Oper),L.size=all.size→all[i]? = some o→L.getD i false=false→(∀ e∈o.after,Region.binds .any e=true→L.getD e.on false=true)→J L a w→wpOp P all Q i (J (L.setIfInBounds i true)) a w)
  (done:∀ a w,J (Array.replicate all.size true) a w→Q .normal a w):(Code.region id all true).wp P Q a w:=by
 refine wp_region_any hm ?_
 have key:∀ (fuel:Nat) (L:Array Bool) (a:Act) (w:World),L.size=all.size→cnt L≤fuel→J L a w→wpAny P .any all Q fuel L a w:=by
  intro fuel
  induction fuel with
  | zero=>
   intro L a w hs hc hJ
   have hall:=cnt_zero (Nat.le_zero.1 hc)
   have hr:Region.ready .any all L=[]:=by
    cases h:Region.ready .any all L with
    | nil=>rfl
    | cons i l=>
     have hi:i∈Region.ready .any all L:=by rw [h]; exact List.mem_cons_self ..
     obtain ⟨hun,o,ho,_⟩:=mem_ready.1 hi
     have hlt:=(Array.getElem?_eq_some_iff.1 ho).1
     rw [getD_true_false (by rw [hs]; exact hlt),hall i (by rw [hs]; exact hlt)] at hun; cases hun
   refine ⟨hr,done a w ?_⟩
   rw [← ready_all hE hs hr]; exact hJ
  | succ fuel ih=>
   intro L a w hs hc hJ
   refine ⟨fun hr=>done a w (by rw [← ready_all hE hs hr]; exact hJ),fun i hi=>?_⟩
   obtain ⟨hun,o,ho,hall⟩:=mem_ready.1 hi
   have hlt:=(Array.getElem?_eq_some_iff.1 ho).1
   have hunf:L.getD i false=false:=by rw [← getD_true_false (by rw [hs]; exact hlt)]; exact hun
   refine wpOp_mono (fun a' w' h'=>ih _ a' w' (by simpa using hs) (by have:=cnt_set (L:=L) (i:=i) (by rw [hs]; exact hlt) hunf; omega) h') (step L a w i o hs ho hunf hall hJ)
 refine key all.size _ a _ (by simp) ?_ h0
 unfold cnt; exact Nat.le_trans List.countP_le_length (by simp)
theorem Oper.wp_monoQ {o:Oper} {a:Act} {w:World} {K K':Act→World→Prop} {Q':Exit→Act→World→Prop} (h:∀ a w,K a w→K' a w) (hq:∀ e a w,e≠.normal→Q e a w→Q' e a w)
  (hh:o.wp P a w K Q):o.wp P a w K' Q':=by
 have hlet:LetsOut Q→LetsOut Q':=fun ⟨a,w,hx⟩=>⟨a,w,hq _ a w (by simp) hx⟩
 unfold Oper.wp at *
 generalize (execOp a.eval o).run P w=r at *
 cases r with
 | ok n w'=>
  cases n <;> simp only [Oper.upon] at hh ⊢ <;>
   first
    | exact h _ _ hh
    | exact Calls.mono hh (fun e w'' he=>by cases e <;> first | exact h _ _ he | exact hq _ _ _ (by simp) he | exact hlet he)
    | exact Rows.mono hh (fun _ _ he=>h _ _ he)
 | halt x w'=>cases x <;> simp only [Oper.upon] at hh ⊢ <;> first | exact hh | exact hq _ _ _ (by simp) hh
theorem R.toOp {o:Oper} {st:St} {J:St→Prop} {i:Nat} (ho:all[i]? = some o) (h:R C (.ops all [o] :: .loopEnd J::k) st) {a:Act} {w:World} {E:Env} (g:Gam C st a w E):
  wpOp C.P all (fin C k) i (fun a w=>∃ s E,J s∧Gam C s a w E) a w:=by
 have h1:=h a w E g
 simp only [fin,wpList] at h1
 unfold wpOp
 simp only [ho]
 have hq:∀ e a w,e≠.normal→fin C (.loopEnd J::k) e a w→fin C k e a w:=by
  intro e a w hne hf
  cases e with
  | normal=>exact (hne rfl).elim
  | exit _=>exact hf
  | goto _=>exact hf
  | ret=>exact hf
  | panic _=>exact hf
  | outgrown=>exact hf
 split
 ·rename_i hw
  rw [if_pos hw] at h1
  rcases h1 with h1 | ⟨h1,a',w',h2⟩
  ·exact .inl (Oper.wp_monoQ (fun _ _ h=>h) hq h1)
  ·exact .inr ⟨h1,a',w',hq _ _ _ (by simp) h2⟩
 ·rename_i hw
  rw [if_neg hw] at h1
  exact h1
theorem R.drawJ {id:Nat} (hm:C.P.follows .mixedOrders=true) (hE:(all.toList.zipIdx).all (fun p=>edgesB p.2 p.1)=true) (J:Array Bool→St→Prop)
  (h0:J (Array.replicate all.size false) s)
  (step:∀ (L:Array Bool) (st:St) (i:Nat) (o:Oper),L.size=all.size→all[i]? = some o→L.getD i false=false→(∀ e∈o.after,Region.binds .any e=true→L.getD e.on false=true)→J L st→R C (.ops all [o] :: .loopEnd (J (L.setIfInBounds i true))::k) st)
  (done:∀ st,J (Array.replicate all.size true) st→R C k st):R C (.code (.region id all true)::k) s:=by
 intro a w E g
 refine wp_region_J hm hE (fun L a w=>∃ st E,J L st∧Gam C st a w E) ⟨s,E,h0,g.drew⟩ ?_ ?_
 ·rintro L a w i o hs ho hun hall ⟨st,E,hJ,g⟩
  exact R.toOp ho (step L st i o hs ho hun hall hJ) g
 ·rintro a w ⟨st,E,hJ,g⟩
  exact done st hJ a w E g
end
section
variable {C:Cx} {s:St} {a:Act} {w:World} {E:Env} {k:List KI}
theorem Gam.reslot (g:Gam C s a w E) {t:Nat} (ht:t<s.n) {v:SV} (h:Rel C.P w E s.row (a.tmps.getD t undef) v) (hv:∀ cs,v≠.box cs):Gam C (s.set t v) a w E:=by
 have g1:=g.put ht h hv
 have e:a.put (some t) (a.tmps.getD t undef)=a:=by
  have hta:t<a.tmps.size:=by rw [g.size]; exact ht
  obtain ⟨tm,df⟩:=a
  simp only [Act.put]
  congr 1
  apply Array.ext
  ·simp
  ·intro i h1 h2
   by_cases hi:t=i
   ·subst hi; simp [Array.getD,hta]
   ·rw [Array.getElem_setIfInBounds_ne (h:=hi)]
 rw [e] at g1
 exact g1
theorem R.asRaw (t:Nat) {i:Nat} {r:Row} (hn:t<s.n) (ht:s.get t = .own i) (hr:s.row i=some r) (h:∀ p cap,R C k (s.set t (.pd (.raw (.slice p r.ds.length cap))))):R C k s:=by
 intro a w E g
 have h1:=g.slots t
 rw [ht] at h1
 rcases h1 r hr with ⟨e,hv⟩ | ⟨b,cap,e,hv⟩
 ·have hnil:r.ds=[]:=g.rb_nil i r hr e
  refine h none 0 a w E (g.reslot hn ?_ (by simp))
  rw [hv,hnil]; exact Rd.raw _ rfl
 ·refine h (some ⟨b,0,none⟩) cap a w E (g.reslot hn ?_ (by simp))
  rw [hv]; exact Rd.raw _ rfl
end
end Go.Abs
end
section
namespace Go.Abs
section
variable {C:Cx} {s:St} {a:Act} {w w':World} {E:Env} {P:Program} {all:Array Oper} {l:List Oper} {k:List KI} {o:Oper}
theorem Rel.rowLen {row row':Nat→Option Row} (h:∀ i r',row' i=some r'→∃ r,row i=some r∧r.sz=r'.sz∧r.ds.length=r'.ds.length) {v:Value} {x:SV} (hr:Rel P w E row v x):Rel P w E row' v x:=by
 induction x generalizing v with
 | own id=>
  intro r' h'
  obtain ⟨r,h1,h2,h3⟩:=h id r' h'
  rw [← h3]; exact hr r h1
 | eptr id i off=>
  intro r' h'
  obtain ⟨r,h1,h2,h3⟩:=h id r' h'
  rw [← h2]; exact hr r h1
 | gd c x ih=>exact fun hc=>ih (hr hc)
 | ifc t x ih=>obtain ⟨u,e,hr⟩:=hr; exact ⟨u,e,ih hr⟩
 | _=>exact hr
theorem Gam.rowSet (g:Gam C s a w E) {i:Nat} {r:Row} (hr:s.row i=some r) {b cap:Nat} (hb:E.rb i=some (b,cap)) (ds:List PD) (cur':Array Value) (hl:ds.length=r.ds.length) (hs:cur'.size=cap * r.sz)
  (hw:∀ k,k<ds.length→(ds.getD k (.tup [])).width=r.sz) (hrd:∀ k j,k<ds.length→j<r.sz→Rd w E.G (cur'.getD (k * r.sz+j) undef) ((ds.getD k (.tup [])).cell j)):
  Gam C (s.setRow i { r with ds:=ds }) a (w.setRow b cur') E:=by
 rcases g.rows i r hr with ⟨h1,_⟩ | ⟨b',cap',cur,h1,m,h2,h3,h4,h5,h6⟩
 ·rw [h1] at hb; cases hb
 rw [h1] at hb; cases hb
 have hk:Keeps w E.G (w.setRow b cur') E.G:=keeps_setRow cur' m.2.1
 have hrow:∀ j r',(s.setRow i { r with ds:=ds }).row j=some r'→(j=i∧r'={ r with ds:=ds })∨(j≠i∧s.row j=some r'):=by
  intro j r' h
  simp only [St.row,St.setRow,lk_up] at h
  split at h
  ·cases h; exact .inl ⟨by assumption,rfl⟩
  ·exact .inr ⟨by assumption,h⟩
 have hex:∀ j r',(s.setRow i { r with ds:=ds }).row j=some r'→∃ r0,s.row j=some r0∧r0.sz=r'.sz∧r0.ds.length=r'.ds.length:=by
  intro j r' h
  rcases hrow j r' h with ⟨rfl,rfl⟩ | ⟨_,h⟩
  ·exact ⟨r,hr,rfl,hl.symm⟩
  ·exact ⟨r',h,rfl,rfl⟩
 have hrel:∀ v x,Rel C.P w E s.row v x→Rel C.P (w.setRow b cur') E (s.setRow i { r with ds:=ds }).row v x:=fun v x h=>(h.keep (E':=E) hk rfl rfl).rowLen hex
 exact {
  kept:=kept_setRow g.kept cur' m.1
  maps:=fun r mm h=>(g.maps r mm h).setRow m.2.2 m.2.1
  vfix:=g.vfix
  rfix:=g.rfix
  rnew:=fun j r' p h hp h0=>by obtain ⟨r0,h,_⟩:=hex j r' h; exact g.rnew j r0 p h hp h0
  defers:=g.defers
  size:=g.size
  g0:=g.g0
  g1:=g.g1
  tab:=g.tab.keep hk
  gw:=fun b' n h=>by simpa [World.setRow] using g.gw b' n h
  slots:=fun t=>hrel _ _ (g.slots t)
  ghosts:=fun t=>hrel _ _ (g.ghosts t)
  vars:=fun t cs h=>by
   obtain ⟨cur2,e,m2,hs2,hr2⟩:=g.vars t cs h
   exact ⟨cur2,e,m2.other (g.vr t cs i r (b,cap) h hr h1),hs2,fun j hj=>⟨(hr2 j hj).1,hrel _ _ (hr2 j hj).2⟩⟩
  rows:=fun j r' h=>by
   rcases hrow j r' h with ⟨rfl,rfl⟩ | ⟨hne,h⟩
   ·exact .inr ⟨b,cap,cur',h1,m.set,hs,by rw [hl]; exact h3,h4,hw,fun k j hk' hj=>(hrd k j hk' hj).keep hk⟩
   ·rcases g.rows j r' h with h | ⟨b2,cap2,cur2,i1,m2,i2,i3,i4,i5,i6⟩
    ·exact .inl h
    ·exact .inr ⟨b2,cap2,cur2,i1,m2.other (fun e=>hne (g.rr j i r' r (b2,cap2) h hr i1 (b,cap) h1 e)),i2,i3,i4,i5,fun k j hk' hj=>(i6 k j hk' hj).keep hk⟩
  boxes:=fun t cs h=>by
   obtain ⟨i1,⟨e,m2⟩,i2⟩:=g.boxes t cs h
   exact ⟨i1,⟨e,m2.other (g.br t cs i r (b,cap) h hr h1)⟩,i2⟩
  vv:=g.vv
  rr:=fun j j' r' r2 p h h'=>by obtain ⟨r0,h,_⟩:=hex j r' h; obtain ⟨r1,h',_⟩:=hex j' r2 h'; exact g.rr j j' r0 r1 p h h'
  vr:=fun t cs j r' p h h'=>by obtain ⟨r0,h',_⟩:=hex j r' h'; exact g.vr t cs j r0 p h h'
  bb:=g.bb
  bv:=g.bv
  br:=fun t cs j r' p h h'=>by obtain ⟨r0,h',_⟩:=hex j r' h'; exact g.br t cs j r0 p h h' }
def spl (d0:PD) (off:Nat) (d:PD):PD:=if d.width=d0.width then d else .tup (d0.cells.take off++d.cells++d0.cells.drop (off+d.width))
theorem spl_width {d0 d:PD} {off:Nat} (h:off+d.width≤d0.width):(spl d0 off d).width=d0.width:=by
 unfold spl
 split
 ·assumption
 ·show (d0.cells.take off++d.cells++d0.cells.drop (off+d.width)).length=d0.width
  rw [List.length_append,List.length_append,List.length_take,List.length_drop,PD.length_cells,PD.length_cells]; omega
theorem spl_cell {d0 d:PD} {off j:Nat} (h:off+d.width≤d0.width) (hj:j<d0.width):(spl d0 off d).cell j=if off≤j∧j<off+d.width then d.cell (j - off) else d0.cell j:=by
 unfold spl
 split
 ·rename_i e
  have:off=0:=by omega
  subst this
  rw [if_pos (by omega)]; simp
 ·have h1:=getD_splice (.tup []:PD) d0.cells d.cells off j (by simp only [PD.length_cells]; exact h) (by rw [PD.length_cells]; exact hj)
  rw [PD.length_cells] at h1
  show (d0.cells.take off++d.cells++d0.cells.drop (off+d.width)).getD j (.tup [])=_
  rw [h1]
  split
  ·rw [PD.getD_cells _ _ (by omega)]
  ·rw [PD.getD_cells _ _ hj]
theorem R.storeE {x y:Operand} {ty:TypeId} {i n off:Nat} {r:Row} {d:PD} (ho:o.op = .store ty x y) (hg:o.guard=none) (hd:dstOk s o) (hx:evO s x = .eptr i n off) (hr:s.row i=some r) (hy:evO s y = .pd d) (hz:szT C.P ty≠0) (hl:szT C.P ty=d.width) (hn:n<r.ds.length)
  (hle:off+d.width≤r.sz) (next:R C (.ops all l::k) ((s.setRow i { r with ds:=r.ds.set n (spl (r.ds.getD n (.tup [])) off d) }).put o.dst .dead)):R C (.ops all (o::l)::k) s:=by
 intro a w E g
 refine wpList_plain hg fun K hK=>?_
 have h1:=evO_ok g x; rw [hx] at h1
 have h2:=evO_ok g y; rw [hy] at h2
 obtain ⟨b,cap,hb,hptr⟩:=h1 r hr
 rcases g.rows i r hr with ⟨i1,_⟩ | ⟨b',cap',cur,i1,m,i2,i3,i4,i5,i6⟩
 ·rw [i1] at hb; cases hb
 rw [i1] at hb; cases hb
 have hcs:=RdV.cells_size h2
 have hcells:=(RdV.cells h2).2
 have hone:∀ v∈(a.eval y).cells.toList,v.oneCell'=true:=by
  intro v hv
  obtain ⟨j,hj,rfl⟩:=List.getElem_of_mem hv
  have:=hcells j (by rw [PD.length_cells,← hcs]; simpa using hj)
  have h3:=this.oneCell
  rw [List.getD_eq_getElem?_getD,List.getElem?_eq_getElem hj] at h3
  exact h3
 have hll:(a.eval y).cells.toList.length=d.width:=by simpa using hcs
 have hmul:n * r.sz+r.sz≤cap * r.sz:=by
  have:n+1≤cap:=by omega
  rw [← Nat.succ_mul]; exact Nat.mul_le_mul_right _ this
 have hst:=run_storeCells_at C.P b (n * r.sz+off) r.e (a.eval y).cells.toList 0 cur w m.2.2 (by rw [i2,hll]; omega) hone
 have hrun:(Instr.storeAt ty (a.eval x) (a.eval y)).run C.P w = .ok () (w.setRow b (cur.toList.take (n * r.sz+off)++(a.eval y).cells.toList++cur.toList.drop (n * r.sz+off+(a.eval y).cells.toList.length)).toArray):=by
  simp only [Instr.storeAt,hptr,Instr.sureAddr,Sem.run_bind,Sem.run_pure,Result.andThen_ok,storeVar,run_szT hz]
  rw [if_neg (by omega)]
  simpa using hst
 unfold Oper.wp execOp
 simp only [ho,Sem.run_bind,hrun,Result.andThen_ok,Sem.run_pure,Oper.upon_skip]
 have hwn:=i5 n hn
 have hgetn:∀ q,(r.ds.set n (spl (r.ds.getD n (.tup [])) off d)).getD q (.tup [])=if q=n then spl (r.ds.getD n (.tup [])) off d else r.ds.getD q (.tup []):=by
  intro q
  simp only [List.getD_eq_getElem?_getD]
  by_cases e:n=q
  ·subst e; rw [List.getElem?_set_self hn,if_pos rfl]; rfl
  ·rw [List.getElem?_set_ne e,if_neg (Ne.symm e)]
 have g':=g.rowSet hr i1 (r.ds.set n (spl (r.ds.getD n (.tup [])) off d)) (cur.toList.take (n * r.sz+off)++(a.eval y).cells.toList++cur.toList.drop (n * r.sz+off+(a.eval y).cells.toList.length)).toArray (by simp)
  (by simp only [List.size_toArray,List.length_append,List.length_take,List.length_drop,Array.length_toList,hll,hcs,i2]; omega) (fun q hq=>by
   simp only [List.length_set] at hq
   rw [hgetn]
   split
   ·rw [spl_width (by rw [hwn]; exact hle),hwn]
   ·exact i5 q hq) (fun q j hq hj=>by
   simp only [List.length_set] at hq
   have hqm:q * r.sz+r.sz≤cap * r.sz:=by
    have:q+1≤cap:=by omega
    rw [← Nat.succ_mul]; exact Nat.mul_le_mul_right _ this
   have e1:((cur.toList.take (n * r.sz+off)++(a.eval y).cells.toList++cur.toList.drop (n * r.sz+off+(a.eval y).cells.toList.length)).toArray).getD (q * r.sz+j) undef=(cur.toList.take (n * r.sz+off)++(a.eval y).cells.toList++cur.toList.drop (n * r.sz+off+(a.eval y).cells.toList.length)).getD (q * r.sz+j) undef:=by
    rw [Array.getD_eq_getD_getElem?,List.getD_eq_getElem?_getD,List.getElem?_toArray]
   rw [e1,getD_splice _ _ _ _ _ (by rw [hll,Array.length_toList,i2]; omega) (by rw [Array.length_toList,i2]; omega),hll,hgetn]
   have hold:=i6 q j hq hj
   by_cases e:q=n
   ·subst e
    rw [if_pos rfl,spl_cell (by rw [hwn]; exact hle) (by rw [hwn]; exact hj)]
    by_cases c:off≤j∧j<off+d.width
    ·rw [if_pos c,if_pos (by omega)]
     have h3:=hcells (j - off) (by rw [PD.length_cells]; omega)
     rw [PD.getD_cells _ _ (by omega)] at h3
     have:q * r.sz+j - (q * r.sz+off)=j - off:=by omega
     rw [this]; exact h3
    ·rw [if_neg c,if_neg (by omega)]
     simpa [Array.getD_eq_getD_getElem?,List.getD_eq_getElem?_getD] using hold
   ·rw [if_neg e,if_neg (by
     intro c
     rcases Nat.lt_or_ge q n with h | h
     ·have:q * r.sz+r.sz≤n * r.sz:=by rw [← Nat.succ_mul]; exact Nat.mul_le_mul_right _ h
      omega
     ·have:n * r.sz+r.sz≤q * r.sz:=by rw [← Nat.succ_mul]; exact Nat.mul_le_mul_right _ (by omega)
      omega)]
    simpa [Array.getD_eq_getD_getElem?,List.getD_eq_getElem?_getD] using hold)
 exact hK _ _ (next _ _ _ (g'.putO (o:=o) hd trivial (by simp)))
theorem R.empty {t e:TypeId} {d:Nat} (id:Nat) (hid:C.rb0 id=none) (ho:o.op = .buildSlice t 0 #[]) (hg:o.guard=none) (hd:o.dst=some d) (hn:d<s.n) (he:slT C.P t=some e) (hz:szT C.P e≠0) (hzero:(zeroT C.P e).isSome=true)
  (next:R C (.ops all l::k) ((s.newRow id ⟨e,szT C.P e,[]⟩).set d (.own id))):R C (.ops all (o::l)::k) s:=by
 intro a w E g
 refine wpList_plain hg fun K hK=>?_
 have hrun:=run_buildSlice (P:=C.P) (w:=w) (n:=0) (vs:=[]) (parts:=#[]) he rfl hz (by simp) hzero (by simp) rfl (by simp)
 unfold Oper.wp execOp
 simp only [ho,Sem.run_bind,Array.map_empty,hrun,Result.andThen_ok,Sem.run_pure,Oper.upon_value]
 simp only [hd]
 have g1:=g.row (i:=id) (r':=⟨e,szT C.P e,[]⟩) (w':=w.alloc (.cells (flat []).toArray e)) (some (w.heap.size,0)) (Keeps.of_below g.gw (below_alloc w _) (fun _ _ h=>h)) (g.kept.trans (.of_below (below_alloc w _))) (by simp) (fun p hp=>by rw [hid] at hp; cases hp)
  (fun b hb _=>heap_alloc_old w _ b hb) (.inr ⟨w.heap.size,0,_,rfl,⟨.inl g.kept.size,fun n hn=>by have:=g.gw _ _ hn; omega,heap_alloc_new w _⟩,by simp [flat],by simp,by simp [maxLen],fun k hk=>by simp at hk,fun k j hk=>by simp at hk⟩) (fun b c h=>by cases h; exact .inl (Nat.le_refl _))
 exact hK _ _ (next _ _ _ (g1.put hn (fun r' hr'=>.inr ⟨w.heap.size,0,by simp,by
  rw [St.row_newRow,if_pos rfl] at hr'; cases hr'; rfl⟩) (by simp)))
theorem run_eqNil {t e:TypeId} (ht:slT P t=some e) (b:Option Addr) (n c:Nat):(Op.equal t (.slice b n c) (.slice none 0 0)).run P w = .ok b.isNone w:=by
 unfold Op.equal Op.maxDepth
 show (Op.equalIn (9999+1) t _ _).run P w=_
 rw [Op.equalIn]
 cases b <;> simp only [Sem.run_bind,run_underlying (und_slT ht),Result.andThen_ok,Sem.run_pure,Option.isNone]
theorem R.isNil {t:TypeId} {x y:Operand} {q:TypeId} {sz:Nat} {ds:List PD} {e:TypeId} (ho:o.op = .binOp .eql t x y q) (hg:o.guard=none) (hd:dstOk s o) (hx:evO s x = .pd (.list sz ds)) (hy:evO s y = .pd (.raw (.slice none 0 0))) (ht:slT C.P t=some e)
  (next:∀ b:Bool,(b=true→ds=[])→R C (.ops all l::k) (s.put o.dst (.pd (.raw (.bool b))))):R C (.ops all (o::l)::k) s:=by
 intro a w E g
 refine wpList_plain hg fun K hK=>?_
 have h1:=evO_ok g x; rw [hx] at h1
 have h2:=evO_ok g y; rw [hy] at h2
 have h2:=RdV.raw_eq h2
 generalize hv:a.eval x=v at h1
 have hu:=und_slT ht
 have key:∃ b:Bool,(b=true→ds=[])∧(execOp a.eval o).run C.P w = .ok (.value (.bool b)) w:=by
  cases h1 with
  | nil=>
   refine ⟨true,fun _=>rfl,?_⟩
   unfold execOp
   simp [ho,hv,h2,eqGuard,binOp,run_eqNil ht]
  | empty _ a=>
   refine ⟨false,by simp,?_⟩
   unfold execOp
   simp [ho,hv,h2,eqGuard,binOp,run_eqNil ht]
  | list _ _ b off cap vs=>
   refine ⟨false,by simp,?_⟩
   unfold execOp
   simp [ho,hv,h2,eqGuard,binOp,run_eqNil ht]
 obtain ⟨b,hb,hrun⟩:=key
 unfold Oper.wp
 rw [hrun,Oper.upon_value]
 exact hK _ _ (next b hb _ _ _ (g.putO hd (.raw _ rfl) (by simp)))
end
end Go.Abs
end
