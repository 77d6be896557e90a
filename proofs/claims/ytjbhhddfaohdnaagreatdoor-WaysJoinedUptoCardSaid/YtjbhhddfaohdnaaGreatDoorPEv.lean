/- A part of the proof: Ev. -/
import Derived.Test.YtjbhhddfaohdnaaGreatDoorPOwn
set_option linter.all false
set_option linter.deprecated false
namespace Go.Abs
def dstP (s:St) (o:Oper):Prop:=match o.dst with | some t=>t<s.n | none=>True
theorem cxP (P:Program) (fn:Func) (w:World) (G:Pub) (rs:List PD):(Cx.fn P fn w G rs).P=P:=rfl
theorem cxV (P:Program) (fn:Func) (w:World) (G:Pub) (rs:List PD) (t:Nat):(Cx.fn P fn w G rs).vb0 t=none:=rfl
theorem cxR (P:Program) (fn:Func) (w:World) (G:Pub) (rs:List PD) (i:Nat):(Cx.fn P fn w G rs).rb0 i=none:=rfl
theorem cwP (P:Program) (fn:Func) (w:World) (G:Pub) (rs:List PD):(Cx.fnW P fn w G rs).P=P:=rfl
theorem cwV (P:Program) (fn:Func) (w:World) (G:Pub) (rs:List PD) (t:Nat):(Cx.fnW P fn w G rs).vb0 t=none:=rfl
theorem cwR (P:Program) (fn:Func) (w:World) (G:Pub) (rs:List PD) (i:Nat):(Cx.fnW P fn w G rs).rb0 i=none:=rfl
theorem cwM (P:Program) (fn:Func) (w:World) (G:Pub) (rs:List PD) (i:Nat):(Cx.fnW P fn w G rs).mu i=False:=rfl
theorem dstP_ok {s:St} {o:Oper} (h:dstP s o):dstOk s o:=fun t ht=>by simpa [dstP,ht] using h
theorem it_tup (l:List PD):(PD.tup l).isTup=true:=rfl
theorem it_raw (v:Value):(PD.raw v).isTup=false:=rfl
theorem it_list (n:Nat) (l:List PD):(PD.list n l).isTup=false:=rfl
theorem wd_raw (v:Value):(PD.raw v).width=1:=rfl
theorem wd_list (n:Nat) (l:List PD):(PD.list n l).width=1:=rfl
theorem wd_tup (l:List PD):(PD.tup l).width=l.length:=rfl
theorem wd_clo (f:FuncId) (l:List PD):(PD.clo f l).width=1:=rfl
theorem wd_mp (k:List Value) (l:List PD):(PD.mp k l).width=1:=rfl
theorem ce_raw (v:Value) (j:Nat):(PD.raw v).cell j = .raw v:=rfl
theorem ce_list (n:Nat) (l:List PD) (j:Nat):(PD.list n l).cell j = .list n l:=rfl
theorem ce_tup (l:List PD) (j:Nat):(PD.tup l).cell j=l.getD j (.tup []):=rfl
theorem ce_clo (f:FuncId) (l:List PD) (j:Nat):(PD.clo f l).cell j = .clo f l:=rfl
theorem ce_mp (k:List Value) (l:List PD) (j:Nat):(PD.mp k l).cell j = .mp k l:=rfl
theorem cs_raw (v:Value):(PD.raw v).cells=[.raw v]:=rfl
theorem cs_list (n:Nat) (l:List PD):(PD.list n l).cells=[.list n l]:=rfl
theorem cs_tup (l:List PD):(PD.tup l).cells=l:=rfl
theorem cs_clo (f:FuncId) (l:List PD):(PD.clo f l).cells=[.clo f l]:=rfl
theorem cs_mp (k:List Value) (l:List PD):(PD.mp k l).cells=[.mp k l]:=rfl
def seqB (k:Nat):Nat→List Nat→Bool
 | 0,[]=>true
 | n+1,x::l=>(x == k)&&seqB (k+1) n l
 | _,_=>false
theorem seqB_ok':∀ {n k:Nat} {l:List Nat},seqB k n l=true→l=List.range' k n
 | 0,k,[],_=>rfl
 | 0,k,_::_,h=>by simp [seqB] at h
 | n+1,k,[],h=>by simp [seqB] at h
 | n+1,k,x::l,h=>by
  simp only [seqB,Bool.and_eq_true,beq_iff_eq] at h
  rw [h.1,seqB_ok' h.2,List.range'_succ]
theorem seqB_ok {n:Nat} {l:List Nat} (h:seqB 0 n l=true):l=List.range n:=by rw [seqB_ok' h,List.range_eq_range']
def wAll (sz:Nat):List PD→Prop
 | []=>True
 | d::l=>d.width=sz∧wAll sz l
theorem wAll_ok' {sz:Nat}:∀ {l:List PD},wAll sz l→∀ i,i<l.length→(l.getD i (.tup [])).width=sz
 | [],_,i,h=>by simp at h
 | d::l,h,0,_=>h.1
 | d::l,h,i+1,hi=>by simpa using wAll_ok' h.2 i (by simpa using hi)
theorem wAll_ok {sz n:Nat} {l:List PD} (h:wAll sz l) (hn:l.length=n) (i:Nat) (hi:i<n):(l.getD i (.tup [])).width=sz:=wAll_ok' h i (by omega)
def ev1 (C:Cx) (all:Array Oper) (o:Oper) (l:List Oper) (k:List KI) (s:St) (K:St→Prop):Prop:=
 match ay C.P (evO s) s.var s.row o.op with
 | some (vc,v)=>vc∧dstP s o∧K (s.put o.dst v.unbox)
 | none=>match o.op with
  | .alloc t=>match zeroT C.P t,o.dst with
   | some zs,some d=>zs.all Value.oneCell'=true∧d<s.n∧C.vb0 d=none∧K ((s.set d (.box zs)).newVar d (zs.map fun v=>.pd (.raw v)))
   | _,_=>R C (.ops all (o::l)::k) s
  | .box _ x=>match stV s.row (evO s x),o.dst with
   | some ls,some d=>d<s.n∧C.vb0 d=none∧K (s.newVar d (ls.map (SV.kill d)))
   | _,_=>R C (.ops all (o::l)::k) s
  | .store ty x y=>match evO s x with
   | .vptr v0 off=>match stV s.row (evO s y),s.var v0 with
    | some ls,some cs=>szT C.P ty≠0∧szT C.P ty=ls.length∧off+ls.length≤cs.length∧dstP s o∧K ((s.setVar v0 (cs.take off++ls++cs.drop (off+ls.length))).put o.dst .dead)
    | _,_=>R C (.ops all (o::l)::k) s
   | .eptr i n off=>match evO s y,s.row i with
    | .pd d,some r=>szT C.P ty≠0∧szT C.P ty=d.width∧n<r.ds.length∧off+d.width≤r.sz∧dstP s o∧K ((s.setRow i { r with ds:=r.ds.set n (spl (r.ds.getD n (.tup [])) off d) }).put o.dst .dead)
    | _,_=>R C (.ops all (o::l)::k) s
   | _=>R C (.ops all (o::l)::k) s
  | .binOp op t x y _=>match op,evO s x,evO s y,slT C.P t with
   | .eql,.pd (.list _ ds),.pd (.raw (.slice none 0 0)),some _=>dstP s o∧∀ b:Bool,(b=true→ds=[])→K (s.put o.dst (.pd (.raw (.bool b))))
   | _,_,_,_=>R C (.ops all (o::l)::k) s
  | .buildSlice t 0 parts=>match slT C.P t,o.dst with
   | some e,some d=>parts = #[]∧C.rb0 (1000+d)=none∧d<s.n∧szT C.P e≠0∧(zeroT C.P e).isSome=true∧K ((s.newRow (1000+d) ⟨e,szT C.P e,[]⟩).set d (.own (1000+d)))
   | _,_=>R C (.ops all (o::l)::k) s
  | .buildSlice t n parts=>match slT C.P t,pdsOf (parts.toList.map fun p=>evO s p.2) with
   | some e,some ds=>szT C.P e≠0∧n * szT C.P e≤16777216∧seqB 0 n (parts.toList.map (·.1))=true∧wAll (szT C.P e) ds∧(zeroT C.P e).isSome=true∧dstP s o∧K (s.put o.dst (.pd (.list (szT C.P e) ds)))
   | _,_=>R C (.ops all (o::l)::k) s
  | _=>R C (.ops all (o::l)::k) s
def ev (C:Cx):Nat→List KI→St→Prop
 | 0,k,s=>R C k s
 | _+1,[],s=>R C [] s
 | n+1,.inBlock _::k,s=>ev C n k s
 | _+1,.loopEnd J::k,s=>R C (.loopEnd J::k) s
 | n+1,.ops _ []::k,s=>ev C n k s
 | n+1,.ops all (o::l)::k,s=>match o.guard with
  | none=>ev1 C all o l k s fun s'=>ev C n (.ops all l::k) s'
  | some (j,want)=>match (all[j]?).bind (·.dst) with
   | some t=>match s.get t with
    | .pd (.raw (.bool c))=>match ay C.P (evG s) s.var s.row o.op with
     | some (vc,v)=>((c == want)=true→vc)∧gok (c == want) (o.op.operands.toList.map (evO s))∧dstP s o∧ev C n (.ops all l::k) (s.put o.dst (.gd (c == want) v.unbox))
     | none=>R C (.ops all (o::l)::k) s
    | _=>R C (.ops all (o::l)::k) s
   | none=>R C (.ops all (o::l)::k) s
 | n+1,.code c::k,s=>match c with
  | .seq x y=>ev C n (.code x :: .code y::k) s
  | .skip=>ev C n k s
  | .block id c=>ev C n (.code c :: .inBlock id::k) s
  | .exit id=>match exitK id k with
   | some k'=>ev C n k' s
   | none=>R C (.code (.exit id)::k) s
  | .cond (.tmp t) x y=>match s.get t with
   | .pd (.raw (.bool b))=>(b=true→R C (.code x::k) s)∧(b=false→R C (.code y::k) s)
   | _=>R C (.code (.cond (.tmp t) x y)::k) s
  | .region _ ops false=>ev C n (.ops ops ops.toList::k) s
  | c=>R C (.code c::k) s
theorem ev1_ok {C:Cx} {all:Array Oper} {o:Oper} {l:List Oper} {k:List KI} {s:St} {K:St→Prop} (hg:o.guard=none) (hK:∀ s',K s'→R C (.ops all l::k) s') (h:ev1 C all o l k s K):R C (.ops all (o::l)::k) s:=by
 unfold ev1 at h
 split at h
 ·rename_i vc v hay
  exact R.y hg (dstP_ok h.2.1) (.op vc v hay h.1) (hK _ h.2.2)
 ·split at h
  ·rename_i t ho
   split at h
   ·rename_i zs d hz hd
    refine R.y hg (fun t' ht=>by rw [hd] at ht; cases ht; exact h.2.1) (.alloc t zs ho hz h.1) ?_
    rw [hd]
    exact R.name d h.2.2.1 (by simp [St.put,St.get_set]) (hK _ h.2.2.2)
   ·exact h
  ·rename_i ty x ho
   split at h
   ·rename_i ls d hl hd
    exact R.box ho hg hd h.1 h.2.1 hl (hK _ h.2.2)
   ·exact h
  ·rename_i ty x y ho
   split at h
   ·rename_i v0 off hx
    split at h
    ·rename_i ls cs hy hv
     exact R.store ho hg (dstP_ok h.2.2.2.1) hx hv hy h.1 h.2.1 h.2.2.1 (hK _ h.2.2.2.2)
    ·exact h
   ·rename_i i n off hx
    split at h
    ·rename_i d r hy hr
     exact R.storeE ho hg (dstP_ok h.2.2.2.2.1) hx hr hy h.1 h.2.1 h.2.2.1 h.2.2.2.1 (hK _ h.2.2.2.2.2)
    ·exact h
   ·exact h
  ·rename_i op t x y q ho
   split at h
   ·rename_i sz ds e hx hy ht
    exact R.isNil ho hg (dstP_ok h.1) hx hy ht (fun b hb=>hK _ (h.2 b hb))
   ·exact h
  ·rename_i t parts ho
   split at h
   ·rename_i e d he hd
    obtain ⟨h1,h2,h3,h4,h5,h6⟩:=h
    subst h1
    exact R.empty (1000+d) h2 ho hg hd h3 he h4 h5 (hK _ h6)
   ·exact h
  ·rename_i t n parts hn0 ho
   split at h
   ·rename_i e ds he hd
    obtain ⟨h1,h2,h3,h4,h5,h6,h7⟩:=h
    exact R.y hg (dstP_ok h6) (.slice t e n _ parts ds ho he rfl h1 h2 (seqB_ok h3) hd (wAll_ok h4 (by have:=pdsOf_length hd; have h9:=congrArg List.length (seqB_ok h3); simp at this h9; omega)) h5) (hK _ h7)
   ·exact h
  ·exact h
theorem ev_ok {C:Cx}:∀ (n:Nat) (k:List KI) (s:St),ev C n k s→R C k s
 | 0,k,s,h=>h
 | _+1,[],s,h=>h
 | n+1,.inBlock _::k,s,h=>R.inBlock (ev_ok n k s h)
 | _+1,.loopEnd J::k,s,h=>h
 | n+1,.ops _ []::k,s,h=>R.nil (ev_ok n k s h)
 | n+1,.ops all (o::l)::k,s,h=>by
  simp only [ev] at h
  split at h
  ·rename_i hg
   exact ev1_ok hg (fun s' h'=>ev_ok n _ s' h') h
  ·rename_i j want hg
   split at h
   ·rename_i t hj
    split at h
    ·rename_i c hc
     split at h
     ·rename_i vc v hay
      exact R.yg hg hj hc (dstP_ok h.2.2.1) (fun hw=>⟨h.2.1,.op vc v hay (h.1 hw)⟩) (ev_ok n _ _ h.2.2.2)
     ·exact h
    ·exact h
   ·exact h
 | n+1,.code c::k,s,h=>by
  unfold ev at h
  split at h
  ·exact R.seq (ev_ok n _ s h)
  ·exact R.skip (ev_ok n _ s h)
  ·exact R.block (ev_ok n _ s h)
  ·split at h
   ·rename_i k' he; exact R.exit he (ev_ok n _ s h)
   ·exact h
  ·split at h
   ·rename_i b hb; exact R.cond hb h.1 h.2
   ·exact h
  ·exact R.region (ev_ok n _ s h)
  ·exact h
def evY (C:Cx) (all:Array Oper) (tail:List Oper) (k:List KI):Nat→List Oper→St→Prop
 | 0,l,s=>RY C all tail k l s
 | _+1,[],s=>R C (.ops all tail::k) s
 | n+1,o::l,s=>match o.guard with
  | none=>match ay C.P (evO s) s.var s.row o.op with
   | some (vc,v)=>vc∧dstP s o∧evY C all tail k n l (s.put o.dst v.unbox)
   | none=>match o.op with
    | .alloc t=>match zeroT C.P t with
     | some zs=>zs.all Value.oneCell'=true∧dstP s o∧evY C all tail k n l (s.put o.dst (.box zs))
     | none=>RY C all tail k (o::l) s
    | .buildSlice t m parts=>match slT C.P t,pdsOf (parts.toList.map fun p=>evO s p.2) with
     | some e,some ds=>szT C.P e≠0∧m * szT C.P e≤16777216∧seqB 0 m (parts.toList.map (·.1))=true∧wAll (szT C.P e) ds∧(zeroT C.P e).isSome=true∧dstP s o∧evY C all tail k n l (s.put o.dst (.pd (.list (szT C.P e) ds)))
     | _,_=>RY C all tail k (o::l) s
    | _=>RY C all tail k (o::l) s
  | some (j,want)=>match (all[j]?).bind (·.dst) with
   | some t=>match s.get t with
    | .pd (.raw (.bool c))=>match ay C.P (evG s) s.var s.row o.op with
     | some (vc,v)=>((c == want)=true→vc)∧gok (c == want) (o.op.operands.toList.map (evO s))∧dstP s o∧evY C all tail k n l (s.put o.dst (.gd (c == want) v.unbox))
     | none=>RY C all tail k (o::l) s
    | .gd true (.pd (.raw (.bool c)))=>match ay C.P (evG s) s.var s.row o.op with
     | some (vc,v)=>((c == want)=true→vc)∧gok (c == want) (o.op.operands.toList.map (evO s))∧dstP s o∧evY C all tail k n l (s.put o.dst (.gd (c == want) v.unbox))
     | none=>RY C all tail k (o::l) s
    | _=>RY C all tail k (o::l) s
   | none=>RY C all tail k (o::l) s
theorem evY_ok {C:Cx} {all:Array Oper} {tail:List Oper} {k:List KI}:∀ (n:Nat) (l:List Oper) (s:St),evY C all tail k n l s→RY C all tail k l s
 | 0,l,s,h=>h
 | _+1,[],s,h=>h
 | n+1,o::l,s,h=>by
  simp only [evY] at h
  split at h
  ·rename_i hg
   split at h
   ·rename_i vc v hay
    exact ⟨_,.inl ⟨hg,.op vc v hay h.1⟩,dstP_ok h.2.1,evY_ok n l _ h.2.2⟩
   ·split at h
    ·rename_i t ho
     split at h
     ·rename_i zs hz
      exact ⟨_,.inl ⟨hg,.alloc t zs ho hz h.1⟩,dstP_ok h.2.1,evY_ok n l _ h.2.2⟩
     ·exact h
    ·rename_i t m parts ho
     split at h
     ·rename_i e ds he hd
      obtain ⟨h1,h2,h3,h4,h5,h6,h7⟩:=h
      exact ⟨_,.inl ⟨hg,.slice t e m _ parts ds ho he rfl h1 h2 (seqB_ok h3) hd (wAll_ok h4 (by have:=pdsOf_length hd; have h9:=congrArg List.length (seqB_ok h3); simp at this h9; omega)) h5⟩,dstP_ok h6,evY_ok n l _ h7⟩
     ·exact h
    ·exact h
  ·rename_i j want hg
   split at h
   ·rename_i t hj
    split at h
    ·rename_i c hc
     split at h
     ·rename_i vc v hay
      exact ⟨_,.inr (.inl ⟨j,want,t,c,_,hg,hj,.inl hc,rfl,fun hw=>⟨h.2.1,.op vc v hay (h.1 hw)⟩⟩),dstP_ok h.2.2.1,evY_ok n l _ h.2.2.2⟩
     ·exact h
    ·rename_i c hc
     split at h
     ·rename_i vc v hay
      exact ⟨_,.inr (.inl ⟨j,want,t,c,_,hg,hj,.inr hc,rfl,fun hw=>⟨h.2.1,.op vc v hay (h.1 hw)⟩⟩),dstP_ok h.2.2.1,evY_ok n l _ h.2.2.2⟩
     ·exact h
    ·exact h
   ·exact h
theorem R.drawE {C:Cx} {all:Array Oper} {k:List KI} {s:St} {id:Nat} (n m:Nat) (hm:C.P.follows .mixedOrders=true) (hB:drawB all n=true) (h:evY C all (all.toList.drop n) k m (all.toList.take n) s):R C (.code (.region id all true)::k) s:=
 R.draw n hm hB (evY_ok m _ s h)
def leL (s:St):List (Nat × SV)→Prop
 | []=>True
 | (t,x)::l=>s.get t=x∧leL s l
def leV (s:St):List (Nat × List SV)→Prop
 | []=>True
 | (t,x)::l=>s.var t=some x∧leV s l
theorem leL_mem {s:St}:∀ {l:List (Nat × SV)},leL s l→∀ t x,lk t l=some x→s.get t=x
 | [],_,t,x,h=>by simp [lk] at h
 | (j,y)::l,hl,t,x,h=>by
  simp only [lk] at h
  split at h
  ·rename_i e; subst e; cases h; exact hl.1
  ·exact leL_mem hl.2 t x h
theorem leV_mem {s:St}:∀ {l:List (Nat × List SV)},leV s l→∀ t x,lk t l=some x→s.var t=some x
 | [],_,t,x,h=>by simp [lk] at h
 | (j,y)::l,hl,t,x,h=>by
  simp only [lk] at h
  split at h
  ·rename_i e; subst e; cases h; exact hl.1
  ·exact leV_mem hl.2 t x h
def leR (s:St):List (Nat × Row)→Prop
 | []=>True
 | (t,x)::l=>s.row t=some x∧leR s l
def leM (s:St):List (Nat × AObj)→Prop
 | []=>True
 | (t,x)::l=>s.map t=some x∧leM s l
theorem leR_mem {s:St}:∀ {l:List (Nat × Row)},leR s l→∀ t x,lk t l=some x→s.row t=some x
 | [],_,t,x,h=>by simp [lk] at h
 | (j,y)::l,hl,t,x,h=>by
  simp only [lk] at h
  split at h
  ·rename_i e; subst e; cases h; exact hl.1
  ·exact leR_mem hl.2 t x h
theorem leM_mem {s:St}:∀ {l:List (Nat × AObj)},leM s l→∀ t x,lk t l=some x→s.map t=some x
 | [],_,t,x,h=>by simp [lk] at h
 | (j,y)::l,hl,t,x,h=>by
  simp only [lk] at h
  split at h
  ·rename_i e; subst e; cases h; exact hl.1
  ·exact leM_mem hl.2 t x h
theorem St.le_of {s s':St} (hn:s'.n=s.n) (hs:leL s s'.slots) (hv:leV s s'.vars) (hr:leR s s'.rows) (hm:leM s s'.maps) (hg:s'.gs=s.gs):St.le s s':=by
 refine ⟨hn,fun t=>?_,fun t cs h=>⟨cs,leV_mem hv t cs h,rfl,fun _ _=>.same _⟩,fun i r h=>leR_mem hr i r h,fun r m h=>leM_mem hm r m h,fun t=>by simp only [St.gget,hg]; exact .same _⟩
 cases h:lk t s'.slots with
 | none=>simp only [St.get,h,Option.getD_none]; exact .dead _
 | some x=>
  have:=leL_mem hs t x h
  have e:s'.get t=x:=by simp [St.get,h]
  rw [e,this]; exact .same _
theorem R.weakE {C:Cx} {k:List KI} {s s':St} (h:R C k s') (l:s'.n=s.n∧leL s s'.slots∧leV s s'.vars∧leR s s'.rows∧leM s s'.maps∧s'.gs=s.gs):R C k s:=R.weak (St.le_of l.1 l.2.1 l.2.2.1 l.2.2.2.1 l.2.2.2.2.1 l.2.2.2.2.2) h
theorem R.endE {C:Cx} {J:St→Prop} {k:List KI} {s s':St} (h:J s') (l:s'.n=s.n∧leL s s'.slots∧leV s s'.vars∧leR s s'.rows∧leM s s'.maps∧s'.gs=s.gs):R C (.loopEnd J::k) s:=R.weakE (R.loopEnd h) l
def leS (s s':St):Prop:=s'.n=s.n∧leL s s'.slots∧leV s s'.vars∧leR s s'.rows∧leM s s'.maps∧s'.gs=s.gs
theorem R.to {C:Cx} {k:List KI} {s:St} (s':St) (l:leS s s') (h:R C k s'):R C k s:=R.weakE h l
structure Fam {ι:Type} (S:ι→St) (Inv:ι→Prop) (μ:ι→Nat) (i:ι) (s:St):Prop where
 out:∃ j,Inv j∧μ j<μ i∧s=S j
theorem R.fam {ι:Type} {C:Cx} {k:List KI} {s:St} {c:Code} (S:ι→St) (Inv:ι→Prop) (μ:ι→Nat) (i0:ι) (hi:Inv i0) (l:leS s (S i0)) (round:∀ i,Inv i→R C (.code c :: .loopEnd (Fam S Inv μ i)::k) (S i)):R C (.code (.loop c)::k) s:=by
 refine R.to (S i0) l ?_
 refine R.loop (fun n s=>∃ i,Inv i∧μ i=n∧s=S i) (μ i0) ⟨i0,hi,rfl,rfl⟩ ?_
 rintro n s ⟨i,hI,rfl,rfl⟩
 have e:(fun s'=>∃ n',n' < μ i∧∃ i',Inv i'∧μ i'=n'∧s'=S i')=Fam S Inv μ i:=by
  funext s'
  apply propext
  constructor
  ·rintro ⟨n',h1,j,h2,rfl,h4⟩; exact ⟨⟨j,h2,h1,h4⟩⟩
  ·rintro ⟨⟨j,h1,h2,h3⟩⟩; exact ⟨μ j,h2,j,h1,rfl,h3⟩
 rw [e]
 exact round i hI
theorem R.famEnd {ι:Type} {C:Cx} {k:List KI} {s:St} {S:ι→St} {Inv:ι→Prop} {μ:ι→Nat} {i:ι} (j:ι) (hj:Inv j) (hm:μ j<μ i) (l:leS s (S j)):R C (.loopEnd (Fam S Inv μ i)::k) s:=
 R.to (S j) l (R.loopEnd ⟨j,hj,hm,rfl⟩)
def filtL {α:Type} (keep:List Nat):List (Nat × α)→List (Nat × α)
 | []=>[]
 | (t,v)::l=>if keep.contains t then (t,v)::filtL keep l else filtL keep l
def St.lp (keep:List Nat) (mods:List (Nat × SV)) (kv:List Nat) (vmods:List (Nat × List SV)) (kr:List Nat) (rmods:List (Nat × Row)) (s:St):St:=
 ⟨s.n,mods++filtL keep s.slots,vmods++filtL kv s.vars,rmods++filtL kr s.rows,s.maps,s.gs⟩
theorem R.famU {ι:Type} {C:Cx} {k:List KI} {s:St} {c:Code} (M:ι→St→St) (Inv:ι→Prop) (μ:ι→Nat) (i0:ι) (hi:Inv i0) (l:leS s (M i0 s)) (round:∀ i,Inv i→R C (.code c :: .loopEnd (Fam (fun i=>M i s) Inv μ i)::k) (M i s)):R C (.code (.loop c)::k) s:=
 R.fam (fun i=>M i s) Inv μ i0 hi l round
theorem ev8 {C:Cx} {k:List KI} {s:St} (h:ev C 80 k s):R C k s:=ev_ok 80 k s h
end Go.Abs
