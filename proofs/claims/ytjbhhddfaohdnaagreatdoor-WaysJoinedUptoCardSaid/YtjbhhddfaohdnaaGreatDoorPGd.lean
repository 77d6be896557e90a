/- A part of the proof: FnM, Pair, Up, Seg, Gd. -/
import Derived.Test.YtjbhhddfaohdnaaGreatDoorPMap3
import Derived.Test.YtjbhhddfaohdnaaGreatDoorPOwn
set_option linter.all false
set_option linter.deprecated false
section
namespace Go.Abs
inductive Res where
 | ret (rs:List PD)
 | own (r:Row)
 | boom (v:Value)
def OwnAt (w:World) (G:Pub) (n:Nat) (v:Value) (r:Row):Prop:=
 (v = .slice none 0 0∧r.ds=[])∨∃ b cap cur,v = .slice (some ⟨b,0,none⟩) r.ds.length cap∧n≤b∧(∀ o,¬ G b o)∧w.heap[b]? = some (.cells cur r.e (0,0))∧cur.size=cap * r.sz∧r.ds.length≤cap∧cap≤maxLen ∧
  (∀ k,k<r.ds.length→(r.ds.getD k (.tup [])).width=r.sz)∧(∀ k j,k<r.ds.length→j<r.sz→Rd w G (cur.getD (k * r.sz+j) undef) ((r.ds.getD k (.tup [])).cell j))
def Ends (w:World) (G:Pub) (n:Nat) (e:Ending):Res→Prop
 | .ret rs=>∃ v,e = .returned v∧RetV w G v rs
 | .own r=>∃ v,e = .returned v∧OwnAt w G n v r
 | .boom v=>e = .panicked [{ v:=v,recovered:=false }]
abbrev Maps:=List (Nat × AMap)
def MapsAt (w:World) (G:Pub) (M:Maps):Prop:=∀ r m,lk r M=some m→MapAt w G r m
def MPost (w:World) (G:Pub) (mu:List Nat) (Q:Res→Maps→Prop) (e:Ending) (w':World):Prop:=
 ∃ res M' G',Q res M'∧(∀ b o,G b o→G' b o)∧(∀ b o,G' b o→G b o∨w.heap.size≤b)∧(∀ b o,G' b o→b<w'.heap.size)∧Kept false (·∈mu) w w'∧Ends w' G' w.heap.size e res∧MapsAt w' G' M'∧∀ r m,lk r M'=some m→r∈mu∨w.heap.size≤r
def FnM (P:Program) (f:FuncId) (args:List SV) (M:Maps) (mu:List Nat) (Q:Res→Maps→Prop):Prop:=
 Ent P f∧∀ w G (vals:Array Value),Good w G→vals.size=args.length→(∀ i,i<args.length→ArgOk P w G (vals.getD i undef) (args.getD i .dead))→MapsAt w G M →
  Calls P f vals w (MPost w G mu Q)
theorem FnM.mono {P:Program} {f:FuncId} {args:List SV} {M:Maps} {mu:List Nat} {Q Q':Res→Maps→Prop} (h:FnM P f args M mu Q) (hq:∀ res M',Q res M'→Q' res M'):FnM P f args M mu Q':=
 ⟨h.1,fun w G vals h1 h2 h3 h4=>(h.2 w G vals h1 h2 h3 h4).mono fun e w' ⟨res,M',G',hQ,hrest⟩=>⟨res,M',G',hq res M' hQ,hrest⟩⟩
def Cx.fnM (P:Program) (fn:Func) (w:World) (G:Pub) (mu:List Nat) (Q:Res→Maps→Prop):Cx:={ P:=P,w0:=w,G0:=G,mu:=(·∈mu),post:=bodyPost P fn (MPost w G mu Q),dr:=false }
theorem cmP (P:Program) (fn:Func) (w:World) (G:Pub) (mu:List Nat) (Q:Res→Maps→Prop):(Cx.fnM P fn w G mu Q).P=P:=rfl
theorem cmV (P:Program) (fn:Func) (w:World) (G:Pub) (mu:List Nat) (Q:Res→Maps→Prop) (t:Nat):(Cx.fnM P fn w G mu Q).vb0 t=none:=rfl
theorem cmR (P:Program) (fn:Func) (w:World) (G:Pub) (mu:List Nat) (Q:Res→Maps→Prop) (i:Nat):(Cx.fnM P fn w G mu Q).rb0 i=none:=rfl
theorem cmW (P:Program) (fn:Func) (w:World) (G:Pub) (mu:List Nat) (Q:Res→Maps→Prop):(Cx.fnM P fn w G mu Q).w0=w:=rfl
theorem cmM (P:Program) (fn:Func) (w:World) (G:Pub) (mu:List Nat) (Q:Res→Maps→Prop) (r:Nat):(Cx.fnM P fn w G mu Q).mu r=(r∈mu):=rfl
def St.startM (n:Nat) (args:List SV) (M:Maps):St:=⟨n,slotsOf 0 args,[],[],M.map fun p=>(p.1,.map p.2),[]⟩
theorem FnM.mk {P:Program} {f:FuncId} {fn:Func} {c:Code} {args:List SV} {M:Maps} {mu:List Nat} {Q:Res→Maps→Prop} (hf:P.funcs[f]? = some fn) (hb:fn.body=some c) (he:Ent P f) (hn:args.length≤fn.ntmps)
  (h:∀ w G,R (Cx.fnM P fn w G mu Q) [.code c] (St.startM fn.ntmps args M)):FnM P f args M mu Q:=by
 refine ⟨he,fun w G vals hG hs hv hM=>?_⟩
 refine calls_of_wp hf hb ?_
 let E:Env:=⟨G,fun _=>0,fun _=>none,fun _=>0⟩
 have hget:∀ t,(St.startM fn.ntmps args M).get t=args.getD t .dead:=by
  intro t; simp only [St.get,St.startM,lk_slotsOf]; simp [List.getD_eq_getElem?_getD]
 have hslot:∀ t,ArgOk P w G ((vals++Array.replicate (fn.ntmps - vals.size) undef).getD t undef) (args.getD t .dead):=by
  intro t
  by_cases ht:t<args.length
  ·have h1:t<vals.size:=by omega
   have:(vals++Array.replicate (fn.ntmps - vals.size) undef).getD t undef=vals.getD t undef:=by
    simp only [Array.getD_eq_getD_getElem?,Array.getElem?_append_left h1]
   rw [this]; exact hv t ht
  ·have:args.getD t .dead = .dead:=by simp [List.getD_eq_getElem?_getD,List.getElem?_eq_none (Nat.le_of_not_lt ht)]
   rw [this]; trivial
 have nb:∀ t cs,(St.startM fn.ntmps args M).get t≠.box cs:=fun t cs=>by rw [hget]; exact ((hslot t).rel (E:=E) rfl (row:=fun _=>none)).2 cs
 have g:Gam (Cx.fnM P fn w G mu Q) (St.startM fn.ntmps args M) { tmps:=vals++Array.replicate (fn.ntmps - vals.size) undef,defers:=[] } w E:={
  kept:=Kept.refl _ _ _
  ghosts:=fun t=>by simp only [St.gget,St.startM,lk,Option.getD_none]; trivial
  maps:=fun r m h=>by
   simp only [St.map,St.startM,lk_map] at h
   cases h0:lk r M with
   | none=>simp [h0] at h
   | some m0=>simp [h0] at h; subst h; exact hM r m0 h0
  vfix:=fun t b h=>by cases h
  rfix:=fun i p h=>by cases h
  rnew:=fun i r p h=>by simp [St.row,St.startM,lk] at h
  defers:=rfl
  size:=by simp only [Array.size_append,Array.size_replicate]; show _=fn.ntmps; omega
  g0:=fun _ _ h=>h
  g1:=fun _ _ h=>.inl h
  tab:=hG.tab
  gw:=hG.lt
  slots:=fun t=>by rw [hget]; exact ((hslot t).rel rfl).1
  vars:=fun t cs h=>by simp [St.var,St.startM,lk] at h
  rows:=fun i r h=>by simp [St.row,St.startM,lk] at h
  boxes:=fun t cs h=>(nb t cs h).elim
  vv:=fun t t' cs cs' h=>by simp [St.var,St.startM,lk] at h
  rr:=fun i i' r r' p h=>by simp [St.row,St.startM,lk] at h
  vr:=fun t cs i r p h=>by simp [St.var,St.startM,lk] at h
  bb:=fun t t' cs cs' h=>(nb t cs h).elim
  bv:=fun t t' cs cs' h=>(nb t cs h).elim
  br:=fun t cs i r p h=>(nb t cs h).elim }
 have:=h w G _ w E g
 simp only [fin] at this
 exact wp_mono this (fun e a w h=>h)
section
variable {C:Cx} {s:St} {a:Act} {w w':World} {E:Env} {P:Program} {k:List KI} {all:Array Oper} {l:List Oper} {o:Oper}
theorem results_run {fn:Func} {vs:List Value} {tm:Array Value} (h:(fn.results.toList.mapM (resM tm)).run P w = .ok vs w):(results fn tm).run P w = .ok (if h:vs.toArray.size=1 then vs.toArray[0] else .tuple vs.toArray) w:=by
 have hm:(fn.results.mapM (resM tm)).run P w = .ok vs.toArray w:=by
  rw [← Array.toArray_toList (xs:=fn.results),List.mapM_toArray,Sem.run_map]
  rw [h]; rfl
 rw [results_eq,Sem.run_bind,hm]; rfl
theorem retV_of {G:Pub} {vs:List Value} {rs:List PD} (h2:vs.length=rs.length) (h3:∀ j,j<rs.length→RdV w G (vs.getD j undef) (rs.getD j (.tup []))):RetV w G (if h:vs.toArray.size=1 then vs.toArray[0] else .tuple vs.toArray) rs:=by
 unfold RetV
 split
 ·rename_i d
  have hl:vs.length=1:=by simpa using h2
  have:=h3 0 (by simp)
  obtain ⟨v,rfl⟩:=List.length_eq_one_iff.1 hl
  simpa using this
 ·rename_i hne
  have hl:¬ vs.toArray.size=1:=by
   intro h
   have:rs.length=1:=by simpa [← h2] using h
   obtain ⟨d,rfl⟩:=List.length_eq_one_iff.1 this
   exact hne d rfl
  rw [dif_neg hl]
  refine ⟨vs.toArray,rfl,by simp [h2],fun j hj=>?_⟩
  have:=h3 j hj
  simpa [Array.getD_eq_getD_getElem?,List.getD_eq_getElem?_getD] using this
theorem postM_ok {fn:Func} {vc:Prop} {rs:List PD} {G:Pub} {mu:List Nat} {Q:Res→Maps→Prop} (g:Gam (Cx.fnM P fn w' G mu Q) s a w E) (h:resD P s fn.results.toList=some (vc,rs)) (hvc:vc) (M':Maps) (hQ:Q (.ret rs) M')
  (hM:∀ r m,lk r M'=some m→s.map r=some (.map m)∧(r∈mu∨w'.heap.size≤r)):
  a.defers=[]∧∃ v,(results fn a.tmps).run P w = .ok v w∧MPost w' G mu Q (.returned v) w:=by
 refine ⟨g.defers,?_⟩
 obtain ⟨vs,h1,h2,h3⟩:=results_ok g h hvc
 exact ⟨_,results_run h1,.ret rs,M',E.G,hQ,g.g0,g.g1,g.gw,g.kept,⟨_,rfl,retV_of h2 h3⟩,fun r m h=>g.maps r _ (hM r m h).1,fun r m h=>(hM r m h).2⟩
theorem R.retM {fn:Func} {vc:Prop} {rs:List PD} {w0:World} {G:Pub} {mu:List Nat} {Q:Res→Maps→Prop} (M':Maps) (h:resD P s fn.results.toList=some (vc,rs)) (hvc:vc) (hQ:Q (.ret rs) M')
  (hM:∀ r m,lk r M'=some m→s.map r=some (.map m)∧(r∈mu∨w0.heap.size≤r)):R (Cx.fnM P fn w0 G mu Q) (.code .ret::k) s:=
 R.ret fun _ _ _ g=>postM_ok g h hvc M' hQ hM
theorem R.overM {fn:Func} {vc:Prop} {rs:List PD} {w0:World} {G:Pub} {mu:List Nat} {Q:Res→Maps→Prop} (M':Maps) (h:resD P s fn.results.toList=some (vc,rs)) (hvc:vc) (hQ:Q (.ret rs) M')
  (hM:∀ r m,lk r M'=some m→s.map r=some (.map m)∧(r∈mu∨w0.heap.size≤r)):R (Cx.fnM P fn w0 G mu Q) [] s:=
 R.over fun _ _ _ g=>postM_ok g h hvc M' hQ hM
theorem R.retOwn {fn:Func} {t i:Nat} {r:Row} {w0:World} {G:Pub} {mu:List Nat} {Q:Res→Maps→Prop} (hres:fn.results.toList=[.tmp t]) (ht:s.get t = .own i) (hr:s.row i=some r) (hQ:Q (.own r) []):R (Cx.fnM P fn w0 G mu Q) (.code .ret::k) s:=
 R.ret fun a w E g=>by
  refine ⟨g.defers,a.tmps.getD t undef,?_,.own r,[],E.G,hQ,g.g0,g.g1,g.gw,g.kept,⟨_,rfl,?_⟩,fun r m h=>by simp [lk] at h,fun r m h=>by simp [lk] at h⟩
  ·rw [results_run (vs:=[a.tmps.getD t undef]) (by rw [hres]; simp [resM])]; rfl
  ·have:=g.slots t
   rw [ht] at this
   rcases this r hr with ⟨h1,h2⟩ | ⟨b,cap,h1,h2⟩
   ·exact .inl ⟨h2,g.rb_nil i r hr h1⟩
   ·rcases g.rows i r hr with ⟨h3,_⟩ | ⟨b',cap',cur,h3,m,h4,h5,h6,h7,h8⟩
    ·rw [h3] at h1; cases h1
    ·rw [h3] at h1; cases h1
     exact .inr ⟨b,cap,cur,h2,g.rnew i r (b,cap) hr h3 rfl,m.2.1,m.2.2,h4,h5,h6,h7,h8⟩
theorem boomM {fn:Func} {w0:World} {G:Pub} {mu:List Nat} {Q:Res→Maps→Prop} {v:Value} (hQ:Q (.boom v) []) (g:Gam (Cx.fnM P fn w0 G mu Q) s a w E):(Cx.fnM P fn w0 G mu Q).post (.panic [{ v:=v,recovered:=false }]) a w:=
 ⟨g.defers,.boom v,[],E.G,hQ,g.g0,g.g1,g.gw,g.kept,rfl,fun r m h=>by simp [lk] at h,fun r m h=>by simp [lk] at h⟩
theorem R.boom {fn:Func} {w0:World} {G:Pub} {mu:List Nat} {Q:Res→Maps→Prop} {t:TypeId} {u:Value} {x:Operand} (ho:o.op = .panic x) (hg:o.guard=none) (hx:evO s x = .pd (.raw (.iface t u))) (hQ:Q (.boom (.iface t u)) []):R (Cx.fnM P fn w0 G mu Q) (.ops all (o::l)::k) s:=by
 intro a w E g
 refine wpList_plain hg fun K hK=>?_
 have h1:=evO_ok g x
 rw [hx] at h1
 have h1:=RdV.raw_eq h1
 have hrun:(execOp a.eval o).run P w = .halt (.panic (.iface t u)) w:=by
  unfold execOp
  simp [ho,h1,Instr.panic,goPanic]
 unfold Oper.wp
 show o.upon P a K _ ((execOp a.eval o).run P w)
 rw [hrun,Oper.upon_panic]
 exact fin_panic a w (boomM hQ g) k
theorem Gam.after (g:Gam C s a w E) (mu:List Nat) (hdr:C.dr=false) (hk:Kept false (·∈mu) w w') (hmu:∀ r,r∈mu→(C.w0.heap.size≤r∨C.mu r)∧(∀ n,¬ E.G r n)∧∃ x,w.heap[r]? = some x∧∀ cs e d,x≠.cells cs e d) (G':Pub) (hG:∀ b o,E.G b o→G' b o)
  (hN:∀ b o,G' b o→E.G b o∨w.heap.size≤b) (hGw:∀ b o,G' b o→b<w'.heap.size) (ms:List (Nat × AObj)) (hm:∀ b y,lk b ms=some y→ObjAt C w' G' b y):Gam C { s with maps:=ms } a w' { E with G:=G' }:=by
 have hblk:∀ b,b<w.heap.size→b∉mu→w'.heap[b]? = w.heap[b]?:=hk.block
 have hkp:Keeps w E.G w' G':=⟨hG,fun b o g'=>World.cell?_of_block (a:=⟨b,o,none⟩) (hblk b (g.gw b o g') (fun h=>(hmu b h).2.1 o g')),fun b o g'=>hblk b (g.gw b o g') (fun h=>(hmu b h).2.1 o g')⟩
 have mn:∀ b cur e,Mine C E.G w b cur e→Mine C G' w' b cur e:=by
  intro b cur e m
  have hl:=m.lt
  refine ⟨m.1,fun o ho=>?_,(hblk b hl (fun h=>?_)).trans m.2.2⟩
  ·rcases hN b o ho with h | h
   ·exact m.2.1 o h
   ·omega
  ·obtain ⟨_,_,x,hx,hn⟩:=hmu b h
   rw [m.2.2] at hx; cases hx; exact hn _ _ _ rfl
 have h0:=g.kept.size
 exact {
  kept:=⟨hk.os.trans g.kept.os,hk.tape.trans g.kept.tape,hk.output.trans g.kept.output,Nat.le_trans g.kept.size hk.size,fun b hb hn=>(hblk b (by omega) (fun h=>by
   rcases (hmu b h).1 with h1 | h1
   ·omega
   ·exact hn h1)).trans (g.kept.block b hb hn),fun e=>by rw [hdr] at e; cases e⟩
  defers:=g.defers
  size:=g.size
  g0:=fun b o h=>hG b o (g.g0 b o h)
  g1:=fun b o h=>by
   rcases hN b o h with h | h
   ·exact g.g1 b o h
   ·exact .inr (by omega)
  tab:=g.tab.keep hkp
  gw:=hGw
  slots:=fun t=>(g.slots t).keep (E':={ E with G:=G' }) hkp rfl rfl
  ghosts:=fun t=>(g.ghosts t).keep (E':={ E with G:=G' }) hkp rfl rfl
  vars:=fun t cs h=>by
   obtain ⟨cur,e,m,hs,hr⟩:=g.vars t cs h
   exact ⟨cur,e,mn _ _ _ m,hs,fun j hj=>⟨(hr j hj).1,(hr j hj).2.keep (E':={ E with G:=G' }) hkp rfl rfl⟩⟩
  rows:=fun i r h=>by
   rcases g.rows i r h with h | ⟨b,cap,cur,h1,m,h2,h3,h4,h5,h6⟩
   ·exact .inl h
   ·exact .inr ⟨b,cap,cur,h1,mn _ _ _ m,h2,h3,h4,h5,fun k j hk' hj=>(h6 k j hk' hj).keep hkp⟩
  maps:=hm
  boxes:=fun t cs h=>by
   obtain ⟨h1,⟨e,m⟩,h2⟩:=g.boxes t cs h
   exact ⟨h1,⟨e,mn _ _ _ m⟩,h2⟩
  vv:=g.vv
  rr:=g.rr
  vr:=g.vr
  bb:=g.bb
  bv:=g.bv
  br:=g.br
  vfix:=g.vfix
  rfix:=g.rfix
  rnew:=g.rnew }
def AObj.wrote (mu:List Nat):AObj→AObj
 | .it r l c=>if mu.contains r then .gone else .it r l c
 | x=>x
def after (mu:List Nat) (M':Maps) (ms:List (Nat × AObj)):List (Nat × AObj):=(M'.map fun p=>(p.1,.map p.2))++(ms.filter fun p=>!mu.contains p.1).map fun p=>(p.1,p.2.wrote mu)
theorem lk_filter {α:Type} (mu:List Nat) (j:Nat):∀ (l:List (Nat × α)),lk j (l.filter fun p=>!mu.contains p.1)=if mu.contains j then none else lk j l
 | []=>by simp [lk]
 | (i,x)::l=>by
  simp only [List.filter_cons]
  by_cases h:i=j
  ·subst h
   cases c:mu.contains i with
   | true=>simp only [Bool.not_true,Bool.false_eq_true,if_false,if_true,lk_filter mu i l,c]
   | false=>simp only [Bool.not_false,Bool.false_eq_true,if_false,if_true,lk]
  ·split
   ·simp only [lk,if_neg h]; exact lk_filter mu j l
   ·rw [lk_filter mu j l]; simp only [lk,if_neg h]
theorem lk_append {α:Type} (j:Nat):∀ (l m:List (Nat × α)),lk j (l++m)=(lk j l).or (lk j m)
 | [],m=>by simp [lk]
 | (i,x)::l,m=>by simp only [List.cons_append,lk]; split <;> simp [lk_append j l m]
def Behind (C:Cx) (all:Array Oper) (l:List Oper) (k:List KI) (s:St) (dst:Option Nat) (id:Nat) (ms:List (Nat × AObj)):Res→Prop
 | .ret rs=>R C (.ops all l::k) (St.put { s with maps:=ms } dst (retSV rs))
 | .own r=>R C (.ops all l::k) (St.put (St.newRow { s with maps:=ms } id r) dst (.own id))
 | .boom v=>∀ a w E,Gam C { s with maps:=ms } a w E→C.post (.panic [{ v:=v,recovered:=false }]) a w
theorem callsM (g:Gam C s a w E) (hdr:C.dr=false) {f:FuncId} {args xs:List SV} {M:Maps} {mu:List Nat} {Q:Res→Maps→Prop} {vals:Array Value} (id:Nat) (hd:dstOk s o) (hid:C.rb0 id=none) (hc:CoL C.P s.var s.row xs args false) (hf:FnM C.P f args M mu Q)
  (hs:vals.size=xs.length) (hv:∀ i,i<xs.length→Rel C.P w E s.row (vals.getD i undef) (xs.getD i .dead))
  (hM:∀ r m,lk r M=some m→s.map r=some (.map m)) (hmu:∀ r,r∈mu→(lk r M).isSome=true∧(C.w0.heap.size≤r∨C.mu r))
  (next:∀ res M',Q res M'→(∀ r m,lk r M'=some m→r∈mu∨(C.w0.heap.size≤r∧s.map r=none))→Behind C all l k s o.dst id (after mu M' s.maps) res):
  Calls C.P f vals w fun e w'=>(∃ v,e = .returned v∧wpList C.P all (fin C k) l (a.put o.dst v) w')∨∃ ch,e = .panicked ch∧C.post (.panic ch) a w':=by
 have hok:=CoL.ok g hc (vs:=vals.toList) (by simpa using hs) (fun i hi=>by simpa [Array.getD_eq_getD_getElem?,List.getD_eq_getElem?_getD] using hv i hi)
 refine (hf.2 w E.G vals g.good (by rw [hs,hc.length]) (fun i hi=>by simpa [Array.getD_eq_getD_getElem?,List.getD_eq_getElem?_getD] using hok i hi) (fun r m h=>g.maps r _ (hM r m h))).mono ?_
 rintro e w' ⟨res,M',G',hQ,hG,hN,hGw,hk,hends,hM',hM''⟩
 have hfresh:∀ r m,lk r M'=some m→r∈mu∨(C.w0.heap.size≤r∧s.map r=none):=by
  intro r m h
  rcases hM'' r m h with h1 | h1
  ·exact .inl h1
  ·refine .inr ⟨Nat.le_trans g.kept.size h1,?_⟩
   cases h2:s.map r with
   | none=>rfl
   | some x=>have:=(g.maps r x h2).lt; omega
 have hmu2:∀ r,r∈mu→(C.w0.heap.size≤r∨C.mu r)∧(∀ n,¬ E.G r n)∧∃ x,w.heap[r]? = some x∧∀ cs e d,x≠.cells cs e d:=by
  intro r hr
  obtain ⟨h1,h2⟩:=hmu r hr
  obtain ⟨m,hm⟩:=Option.isSome_iff_exists.1 h1
  have h3:=g.maps r _ (hM r m hm)
  exact ⟨h2,h3.1,ObjAt.gone h3⟩
 have g1:=g.after mu hdr hk hmu2 G' hG hN hGw (after mu M' s.maps) (fun b y hy=>by
  unfold Abs.after at hy
  rw [lk_append,lk_map] at hy
  cases h1:lk b M' with
  | some m=>simp [h1] at hy; subst hy; exact hM' b m h1
  | none=>
   simp only [h1,Option.map_none,Option.none_or,lk_map,lk_filter] at hy
   split at hy
   ·cases hy
   rename_i hbm
   have hbm:b∉mu:=by simpa using hbm
   cases h2:lk b s.maps with
   | none=>simp [h2] at hy
   | some y0=>
    simp [h2] at hy; subst hy
    have hold:=g.maps b y0 h2
    have hbl:=hold.lt
    have hkp:Keeps w E.G w' G':=⟨hG,fun c o g'=>World.cell?_of_block (a:=⟨c,o,none⟩) (hk.block c (g.gw c o g') (fun h=>(hmu2 c h).2.1 o g')),fun c o g'=>hk.block c (g.gw c o g') (fun h=>(hmu2 c h).2.1 o g')⟩
    have hnG:(∀ o,¬ E.G b o)→∀ o,¬ G' b o:=fun h o ho=>by
     rcases hN b o ho with h1 | h1
     ·exact h o h1
     ·omega
    have hgone:b<w'.heap.size∧∃ x,w'.heap[b]? = some x∧∀ cs e d,x≠.cells cs e d:=by
     obtain ⟨x,hx,hn⟩:=ObjAt.gone hold
     exact ⟨Nat.lt_of_lt_of_le hbl hk.size,x,(hk.block b hbl hbm).trans hx,hn⟩
    cases y0 with
    | gone=>exact hgone
    | map m=>exact MapAt.keep hkp (hnG hold.1) (hk.block b hbl hbm) hold
    | it r l c=>
     simp only [AObj.wrote]
     split
     ·exact hgone
     ·rename_i hb
      have hb:r∉mu:=by simpa using hb
      obtain ⟨h0,since,last,clock,seen,es,i1,i2,i3⟩:=hold
      exact ⟨⟨h0.1,hnG h0.2⟩,since,last,clock,seen,es,(hk.block b hbl hbm).trans i1,(hk.block r (Array.getElem?_eq_some_iff.1 i2).1 hb).trans i2,i3⟩)
 have hn:=next res M' hQ hfresh
 cases res with
 | ret rs=>
  obtain ⟨v,rfl,hr⟩:=hends
  exact .inl ⟨v,rfl,hn _ _ _ (g1.putO hd (retSV_ok hr) (retSV_ne rs))⟩
 | own r=>
  obtain ⟨v,rfl,hr⟩:=hends
  refine .inl ⟨v,rfl,?_⟩
  rcases hr with ⟨rfl,hnil⟩ | ⟨b,cap,cur,rfl,hb0,hbG,hbb,h1,h2,h3,h4,h5⟩
  ·have g2:=g1.row (i:=id) (r':=r) (w':=w') none (Keeps.refl _ _) g1.kept (Nat.le_refl _) (fun p hp=>by rw [hid] at hp; cases hp) (fun _ _ _=>rfl) (.inl ⟨rfl,hnil⟩) (fun b cap h=>by cases h)
   exact hn _ _ _ (g2.putO hd (fun r' _=>.inl ⟨by simp,rfl⟩) (by simp))
  ·have g2:=g1.rowF (i:=id) (r':=r) (w':=w') (some (b,cap)) (Keeps.refl _ _) g1.kept (Nat.le_refl _) (fun p hp=>by rw [hid] at hp; cases hp) (fun _ _ _=>rfl)
    (.inr ⟨b,cap,cur,rfl,⟨.inl (Nat.le_trans g.kept.size hb0),hbG,hbb⟩,h1,h2,h3,h4,h5⟩) (fun b' cap' h=>by
     cases h
     refine .inl ⟨Nat.le_trans g.kept.size hb0,fun t cs hv=>?_,fun j r p hr hp=>?_,fun t cs hb=>?_⟩
     ·have:=g.var_lt (t:=t) (cs:=cs) hv; show E.vb t≠b; omega
     ·have:=g.row_lt (i:=j) (r:=r) hr hp; omega
     ·have:=g.box_lt (t:=t) hb; show E.bx t≠b; omega)
   exact hn _ _ _ (g2.putO hd (fun r' hr'=>.inr ⟨b,cap,by simp,by
    have:r'=r:=by rw [St.row_newRow,if_pos rfl] at hr'; cases hr'; rfl
    rw [this]⟩) (by simp))
 | boom v=>exact .inr ⟨_,hends,hn a w' _ g1⟩
theorem R.callM (hdr:C.dr=false) {f:FuncId} {xs:Array Operand} {ts:Array TypeId} {args:List SV} {M:Maps} {mu:List Nat} {Q:Res→Maps→Prop} (id:Nat) (hid:C.rb0 id=none) (ho:o.op = .call ⟨.value (.func f),xs,ts⟩) (hg:o.guard=none) (hd:dstOk s o) (hc:CoL C.P s.var s.row (xs.toList.map (evO s)) args false)
  (hf:FnM C.P f args M mu Q) (hM:∀ r m,lk r M=some m→s.map r=some (.map m)) (hmu:∀ r,r∈mu→(lk r M).isSome=true∧(C.w0.heap.size≤r∨C.mu r))
  (next:∀ res M',Q res M'→(∀ r m,lk r M'=some m→r∈mu∨(C.w0.heap.size≤r∧s.map r=none))→Behind C all l k s o.dst id (after mu M' s.maps) res):R C (.ops all (o::l)::k) s:=by
 intro a w E g
 refine wpList_plain hg fun K hK=>?_
 have hrun:=run_call (P:=C.P) (w:=w) hf.1 a.eval o (.func f) xs ts #[] ho #[] rfl
 unfold Oper.wp
 rw [hrun,Oper.upon_enter]
 refine (callsM g hdr id hd hid hc hf (by simp) (fun i hi=>?_) hM hmu next).mono ?_
 ·simp only [List.length_map,Array.length_toList] at hi
  have:=evO_ok g xs[i]
  simpa [hi] using this
 ·rintro e w' (⟨v,rfl,h⟩ | ⟨ch,rfl,h⟩)
  ·exact hK _ _ h
  ·exact fin_panic a w' h k
theorem R.callMraw (hdr:C.dr=false) {t:Nat} {f:FuncId} {xs:Array Operand} {ts:Array TypeId} {args:List SV} {M:Maps} {mu:List Nat} {Q:Res→Maps→Prop} (id:Nat) (hid:C.rb0 id=none) (ho:o.op = .call ⟨.value (.tmp t),xs,ts⟩) (ht:s.get t = .pd (.raw (.func (.func f) #[] #[]))) (hg:o.guard=none) (hd:dstOk s o) (hc:CoL C.P s.var s.row (xs.toList.map (evO s)) args false)
  (hf:FnM C.P f args M mu Q) (hM:∀ r m,lk r M=some m→s.map r=some (.map m)) (hmu:∀ r,r∈mu→(lk r M).isSome=true∧(C.w0.heap.size≤r∨C.mu r))
  (next:∀ res M',Q res M'→(∀ r m,lk r M'=some m→r∈mu∨(C.w0.heap.size≤r∧s.map r=none))→Behind C all l k s o.dst id (after mu M' s.maps) res):R C (.ops all (o::l)::k) s:=by
 intro a w E g
 refine wpList_plain hg fun K hK=>?_
 have hft:=g.slots t
 rw [ht] at hft
 have hrun:=run_call (P:=C.P) (w:=w) hf.1 a.eval o (.tmp t) xs ts #[] ho #[] (RdV.raw_eq hft)
 unfold Oper.wp
 rw [hrun,Oper.upon_enter]
 refine (callsM g hdr id hd hid hc hf (by simp) (fun i hi=>?_) hM hmu next).mono ?_
 ·simp only [List.length_map,Array.length_toList] at hi
  have:=evO_ok g xs[i]
  simpa [hi] using this
 ·rintro e w' (⟨v,rfl,h⟩ | ⟨ch,rfl,h⟩)
  ·exact hK _ _ h
  ·exact fin_panic a w' h k
end
end Go.Abs
end
section
namespace Go.Abs
def Cx.any (P:Program) (fn:Func) (w:World) (G:Pub) (mu:List Nat) (Post:Ending→World→Prop):Cx:={ P:=P,w0:=w,G0:=G,mu:=(·∈mu),post:=bodyPost P fn Post,dr:=false }
section
variable (P:Program) (fn:Func) (w:World) (G:Pub) (mu:List Nat) (Post:Ending→World→Prop)
theorem caP:(Cx.any P fn w G mu Post).P=P:=rfl
theorem caV (t:Nat):(Cx.any P fn w G mu Post).vb0 t=none:=rfl
theorem caR (i:Nat):(Cx.any P fn w G mu Post).rb0 i=none:=rfl
theorem caW:(Cx.any P fn w G mu Post).w0=w:=rfl
theorem caM (r:Nat):(Cx.any P fn w G mu Post).mu r=(r∈mu):=rfl
end
theorem calls_start {P:Program} {f:FuncId} {fn:Func} {c:Code} {args:List SV} {M:Maps} {mu:List Nat} {Post:Ending→World→Prop} (hf:P.funcs[f]? = some fn) (hb:fn.body=some c) (hn:args.length≤fn.ntmps) {w:World} {G:Pub} {vals:Array Value}
  (hG:Good w G) (hs:vals.size=args.length) (hv:∀ i,i<args.length→ArgOk P w G (vals.getD i undef) (args.getD i .dead)) (hM:MapsAt w G M)
  (h:R (Cx.any P fn w G mu Post) [.code c] (St.startM fn.ntmps args M)):Calls P f vals w Post:=by
 refine calls_of_wp hf hb ?_
 let E:Env:=⟨G,fun _=>0,fun _=>none,fun _=>0⟩
 have hget:∀ t,(St.startM fn.ntmps args M).get t=args.getD t .dead:=by
  intro t; simp only [St.get,St.startM,lk_slotsOf]; simp [List.getD_eq_getElem?_getD]
 have hslot:∀ t,ArgOk P w G ((vals++Array.replicate (fn.ntmps - vals.size) undef).getD t undef) (args.getD t .dead):=by
  intro t
  by_cases ht:t<args.length
  ·have h1:t<vals.size:=by omega
   have:(vals++Array.replicate (fn.ntmps - vals.size) undef).getD t undef=vals.getD t undef:=by
    simp only [Array.getD_eq_getD_getElem?,Array.getElem?_append_left h1]
   rw [this]; exact hv t ht
  ·have:args.getD t .dead = .dead:=by simp [List.getD_eq_getElem?_getD,List.getElem?_eq_none (Nat.le_of_not_lt ht)]
   rw [this]; trivial
 have nb:∀ t cs,(St.startM fn.ntmps args M).get t≠.box cs:=fun t cs=>by rw [hget]; exact ((hslot t).rel (E:=E) rfl (row:=fun _=>none)).2 cs
 have g:Gam (Cx.any P fn w G mu Post) (St.startM fn.ntmps args M) { tmps:=vals++Array.replicate (fn.ntmps - vals.size) undef,defers:=[] } w E:={
  kept:=Kept.refl _ _ _
  ghosts:=fun t=>by simp only [St.gget,St.startM,lk,Option.getD_none]; trivial
  maps:=fun r m h=>by
   simp only [St.map,St.startM,lk_map] at h
   cases h0:lk r M with
   | none=>simp [h0] at h
   | some m0=>simp [h0] at h; subst h; exact hM r m0 h0
  vfix:=fun t b h=>by cases h
  rfix:=fun i p h=>by cases h
  rnew:=fun i r p h=>by simp [St.row,St.startM,lk] at h
  defers:=rfl
  size:=by simp only [Array.size_append,Array.size_replicate]; show _=fn.ntmps; omega
  g0:=fun _ _ h=>h
  g1:=fun _ _ h=>.inl h
  tab:=hG.tab
  gw:=hG.lt
  slots:=fun t=>by rw [hget]; exact ((hslot t).rel rfl).1
  vars:=fun t cs h=>by simp [St.var,St.startM,lk] at h
  rows:=fun i r h=>by simp [St.row,St.startM,lk] at h
  boxes:=fun t cs h=>(nb t cs h).elim
  vv:=fun t t' cs cs' h=>by simp [St.var,St.startM,lk] at h
  rr:=fun i i' r r' p h=>by simp [St.row,St.startM,lk] at h
  vr:=fun t cs i r p h=>by simp [St.var,St.startM,lk] at h
  bb:=fun t t' cs cs' h=>(nb t cs h).elim
  bv:=fun t t' cs cs' h=>(nb t cs h).elim
  br:=fun t cs i r p h=>(nb t cs h).elim }
 have:=h _ w E g
 simp only [fin] at this
 exact wp_mono this (fun e a w h=>h)
def PairPost (w:World) (G:Pub) (r:Row) (d:PD) (e:Ending) (w':World):Prop:=
 ∃ v u G',e = .returned (.tuple #[v,u])∧(∀ b o,G b o→G' b o)∧(∀ b o,G' b o→G b o∨w.heap.size≤b)∧(∀ b o,G' b o→b<w'.heap.size)∧Kept false (fun _=>False) w w'∧OwnAt w' G' w.heap.size v r∧RdV w' G' u d
def FnP (P:Program) (f:FuncId) (args:List SV) (r:Row) (d:PD):Prop:=
 Ent P f∧∀ w G (vals:Array Value),Good w G→vals.size=args.length→(∀ i,i<args.length→ArgOk P w G (vals.getD i undef) (args.getD i .dead))→Calls P f vals w (PairPost w G r d)
def Cx.fnP (P:Program) (fn:Func) (w:World) (G:Pub) (r:Row) (d:PD):Cx:=Cx.any P fn w G [] (PairPost w G r d)
section
variable (P:Program) (fn:Func) (w:World) (G:Pub) (r:Row) (d:PD)
theorem cpP:(Cx.fnP P fn w G r d).P=P:=rfl
theorem cpV (t:Nat):(Cx.fnP P fn w G r d).vb0 t=none:=rfl
theorem cpR (i:Nat):(Cx.fnP P fn w G r d).rb0 i=none:=rfl
end
theorem FnP.mk {P:Program} {f:FuncId} {fn:Func} {c:Code} {args:List SV} {r:Row} {d:PD} (hf:P.funcs[f]? = some fn) (hb:fn.body=some c) (he:Ent P f) (hn:args.length≤fn.ntmps)
  (h:∀ w G,R (Cx.fnP P fn w G r d) [.code c] (St.startM fn.ntmps args [])):FnP P f args r d:=
 ⟨he,fun w G vals hG hs hv=>calls_start hf hb hn (M:=[]) (mu:=[]) hG hs hv (fun r m h=>by simp [lk] at h) (h w G)⟩
section
variable {C:Cx} {s:St} {a:Act} {w w':World} {E:Env} {P:Program} {k:List KI} {all:Array Oper} {l:List Oper} {o:Oper}
theorem Gam.ownAt {i t:Nat} {r:Row} (g:Gam C s a w E) (hr0:C.rb0 i=none) (ht:s.get t = .own i) (hr:s.row i=some r):OwnAt w E.G C.w0.heap.size (a.tmps.getD t undef) r:=by
 have:=g.slots t
 rw [ht] at this
 rcases this r hr with ⟨h1,h2⟩ | ⟨b,cap,h1,h2⟩
 ·exact .inl ⟨h2,g.rb_nil i r hr h1⟩
 ·rcases g.rows i r hr with ⟨h3,_⟩ | ⟨b',cap',cur,h3,m,h4,h5,h6,h7,h8⟩
  ·rw [h3] at h1; cases h1
  ·rw [h3] at h1; cases h1
   exact .inr ⟨b,cap,cur,h2,g.rnew i r (b,cap) hr h3 hr0,m.2.1,m.2.2,h4,h5,h6,h7,h8⟩
theorem R.retPair {fn:Func} {t t' i:Nat} {r:Row} {d:PD} {w0:World} {G:Pub} (hres:fn.results.toList=[.tmp t,.tmp t']) (ht:s.get t = .own i) (hr:s.row i=some r) (ht':s.get t' = .pd d):R (Cx.fnP P fn w0 G r d) (.code .ret::k) s:=
 R.ret fun a w E g=>by
  refine ⟨g.defers,.tuple #[a.tmps.getD t undef,a.tmps.getD t' undef],?_,_,_,E.G,rfl,g.g0,g.g1,g.gw,?_,g.ownAt rfl ht hr,?_⟩
  ·rw [results_run (vs:=[a.tmps.getD t undef,a.tmps.getD t' undef]) (by rw [hres]; simp [resM])]; rfl
  ·exact g.kept.mono (fun k h=>by cases h)
  ·have:=g.slots t'
   rw [ht'] at this
   exact this
theorem wpList_value {Q:Exit→Act→World→Prop} {v:Value} (hg:o.guard=none) (hrun:(execOp a.eval o).run P w = .ok (.value v) w) (h:wpList P all Q l (a.put o.dst v) w):wpList P all Q (o::l) a w:=by
 refine wpList_plain hg fun K hK=>?_
 unfold Oper.wp
 rw [hrun,Oper.upon_value]
 exact hK _ _ h
theorem R.callPair (hdr:C.dr=false) {f:FuncId} {xs:Array Operand} {ts:Array TypeId} {args:List SV} {r:Row} {d:PD} {o2 o3 o4:Oper} {d1 d2 d3 d4:Nat} (id:Nat) (hid:C.rb0 id=none)
  (ho:o.op = .call ⟨.value (.func f),xs,ts⟩) (hg:o.guard=none) (hd:o.dst=some d1) (ho2:o2.op = .move (.tmp d1)) (hg2:o2.guard=none) (hd2:o2.dst=some d2) (ho3:o3.op = .extract (.tmp d2) 0) (hg3:o3.guard=none) (hd3:o3.dst=some d3)
  (ho4:o4.op = .extract (.tmp d2) 1) (hg4:o4.guard=none) (hd4:o4.dst=some d4) (hlt:d1<s.n∧d2<s.n∧d3<s.n∧d4<s.n) (hne:d2≠d3)
  (hc:CoL C.P s.var s.row (xs.toList.map (evO s)) args false) (hf:FnP C.P f args r d)
  (next:R C (.ops all l::k) (((((s.newRow id r).set d1 .dead).set d2 .dead).set d3 (.own id)).set d4 (.pd d))):R C (.ops all (o::o2::o3::o4::l)::k) s:=by
 intro a w E g
 refine wpList_plain hg fun K hK=>?_
 have hrun:=run_call (P:=C.P) (w:=w) hf.1 a.eval o (.func f) xs ts #[] ho #[] rfl
 unfold Oper.wp
 rw [hrun,Oper.upon_enter]
 have hvals:∀ i,i<(xs.toList.map (evO s)).length→Rel C.P w E s.row (((xs.map a.eval) ++ #[]).getD i undef) ((xs.toList.map (evO s)).getD i .dead):=by
  intro i hi
  simp only [List.length_map,Array.length_toList] at hi
  have:=evO_ok g xs[i]
  simpa [hi] using this
 have hok:=CoL.ok g hc (vs:=((xs.map a.eval) ++ #[]).toList) (by simp) (fun i hi=>by simpa [Array.getD_eq_getD_getElem?,List.getD_eq_getElem?_getD] using hvals i hi)
 refine (hf.2 w E.G _ g.good (by rw [← hc.length]; simp) (fun i hi=>by simpa [Array.getD_eq_getD_getElem?,List.getD_eq_getElem?_getD] using hok i hi)).mono ?_
 rintro e w' ⟨v,u,G',rfl,hG,hN,hGw,hk,hown,hu⟩
 refine hK _ _ ?_
 have hb:Go.RowKit.Below w.heap.size w w':=hk.belowW
 have g1:=g.growD hb (fun h=>by rw [hdr] at h; cases h) G' hG (fun b o h=>(hN b o h).imp (fun x=>x) (fun h'=>⟨h',hGw b o h⟩))
 have g2:∃ E',Gam C (s.newRow id r) a w' E'∧E'.G=G'∧Rel C.P w' E' (s.newRow id r).row v (.own id):=by
  rcases hown with ⟨rfl,hnil⟩ | ⟨b,cap,cur,rfl,hb0,hbG,hbb,h1,h2,h3,h4,h5⟩
  ·exact ⟨_,g1.row (i:=id) (r':=r) (w':=w') none (Keeps.refl _ _) g1.kept (Nat.le_refl _) (fun p hp=>by rw [hid] at hp; cases hp) (fun _ _ _=>rfl) (.inl ⟨rfl,hnil⟩) (fun b cap h=>by cases h),rfl,fun r' _=>.inl ⟨by simp,rfl⟩⟩
  ·refine ⟨_,g1.rowF (i:=id) (r':=r) (w':=w') (some (b,cap)) (Keeps.refl _ _) g1.kept (Nat.le_refl _) (fun p hp=>by rw [hid] at hp; cases hp) (fun _ _ _=>rfl)
    (.inr ⟨b,cap,cur,rfl,⟨.inl (Nat.le_trans g.kept.size hb0),hbG,hbb⟩,h1,h2,h3,h4,h5⟩) (fun b' cap' h=>by
     cases h
     refine .inl ⟨Nat.le_trans g.kept.size hb0,fun t cs hv=>?_,fun j r p hr hp=>?_,fun t cs hb=>?_⟩
     ·have:=g.var_lt (t:=t) (cs:=cs) hv; show E.vb t≠b; omega
     ·have:=g.row_lt (i:=j) (r:=r) hr hp; omega
     ·have:=g.box_lt (t:=t) hb; show E.bx t≠b; omega),rfl,fun r' hr'=>.inr ⟨b,cap,by simp,by
    have:r'=r:=by rw [St.row_newRow,if_pos rfl] at hr'; cases hr'; rfl
    rw [this]⟩⟩
 obtain ⟨E',g2,hEG,hrel⟩:=g2
 have hsn:(s.newRow id r).n=s.n:=rfl
 rw [hd]
 have g3:=g2.dead (t:=d1) (by rw [hsn]; exact hlt.1) (.tuple #[v,u])
 have g4:=g3.dead (t:=d2) (by show d2<s.n; exact hlt.2.1) (.tuple #[v,u])
 have g5:=g4.put (t:=d3) (by show d3<s.n; exact hlt.2.2.1) (u:=v) (v:=.own id) hrel (by simp)
 have g6:=g5.put (t:=d4) (by show d4<s.n; exact hlt.2.2.2) (u:=u) (v:=.pd d) (by show RdV w' E'.G u d; rw [hEG]; exact hu) (by simp)
 have hta:d1<a.tmps.size:=by rw [g.size]; exact hlt.1
 have htb:d2<a.tmps.size:=by rw [g.size]; exact hlt.2.1
 refine wpList_value hg2 (v:=.tuple #[v,u]) ?_ ?_
 ·have e1:(a.put (some d1) (.tuple #[v,u])).tmps.getD d1 undef = .tuple #[v,u]:=by rw [getD_put a d1 _ d1 hta,if_pos rfl]
  simp [execOp,ho2,Act.eval,e1]
 rw [hd2]
 have e2:((a.put (some d1) (.tuple #[v,u])).put (some d2) (.tuple #[v,u])).tmps.getD d2 undef = .tuple #[v,u]:=by rw [getD_put _ d2 _ d2 (by simpa [Act.put] using htb),if_pos rfl]
 refine wpList_value hg3 (v:=v) ?_ ?_
 ·simp [execOp,ho3,Act.eval,e2,Instr.extract]
 rw [hd3]
 refine wpList_value hg4 (v:=u) ?_ ?_
 ·have e3:(((a.put (some d1) (.tuple #[v,u])).put (some d2) (.tuple #[v,u])).put (some d3) v).tmps.getD d2 undef = .tuple #[v,u]:=by
   by_cases h3:d3<a.tmps.size
   ·rw [getD_put _ d3 _ d2 (by simpa [Act.put] using h3),if_neg hne]; exact e2
   ·exact (h3 (by rw [g.size]; exact hlt.2.2.1)).elim
  simp [execOp,ho4,Act.eval,e3,Instr.extract]
 rw [hd4]
 exact next _ _ _ g6
end
end Go.Abs
end
section
namespace Go.Abs
inductive CLe:PD→PD→Prop
 | same (d:PD):CLe d d
 | nil (sz:Nat):CLe (.raw (.slice none 0 0)) (.list sz [])
theorem CLe.rd {w:World} {G:Pub} {v:Value} {d d':PD} (h:CLe d d') (hr:Rd w G v d):Rd w G v d':=by
 cases h with
 | same _=>exact hr
 | nil sz=>
  have:v = .slice none 0 0:=by cases hr; rfl
  subst this; exact .nil sz
inductive CLeL:List PD→List PD→Prop
 | nil:CLeL [] []
 | cons {d e:PD} {l m:List PD} (h:CLe d e) (t:CLeL l m):CLeL (d::l) (e::m)
theorem CLeL.len {l m:List PD} (h:CLeL l m):l.length=m.length:=by induction h with | nil=>rfl | cons _ _ ih=>simp [ih]
theorem CLeL.get {l m:List PD} (h:CLeL l m):∀ j,CLe (l.getD j (.tup [])) (m.getD j (.tup [])):=by
 induction h with
 | nil=>intro j; simp; exact .same _
 | cons h _ ih=>intro j; cases j with
  | zero=>simpa using h
  | succ j=>simpa using ih j
inductive PUp:PD→PD→Prop
 | same (d:PD):PUp d d
 | nil (sz:Nat):PUp (.raw (.slice none 0 0)) (.list sz [])
 | tup {l m:List PD} (h:CLeL l m):PUp (.tup l) (.tup m)
 | list (sz:Nat) {l m:List PD} (hl:l.length=m.length) (h:∀ i,i<l.length→∃ x y,l.getD i (.tup []) = .tup x∧m.getD i (.tup []) = .tup y∧CLeL x y):PUp (.list sz l) (.list sz m)
theorem PUp.rd {w:World} {G:Pub} {v:Value} {d d':PD} (h:PUp d d') (hr:RdV w G v d):RdV w G v d':=by
 cases h with
 | same _=>exact hr
 | nil sz=>
  have:v = .slice none 0 0:=RdV.raw_eq hr
  subst this; exact Rd.nil sz
 | tup h=>
  obtain ⟨cs,rfl,hs,hc⟩:=hr
  exact ⟨cs,rfl,by rw [hs,h.len],fun j hj=>(h.get j).rd (hc j (by rw [h.len]; exact hj))⟩
 | @list sz l m hl h=>
  have hr:Rd w G v (.list sz l):=hr
  show Rd w G v (.list sz m)
  cases hr with
  | nil _=>
   have:m=[]:=List.length_eq_zero_iff.1 (by simpa using hl.symm)
   subst this; exact .nil sz
  | empty _ a=>
   have:m=[]:=List.length_eq_zero_iff.1 (by simpa using hl.symm)
   subst this; exact .empty sz a
  | list _ _ b off cap vs hcap hmax hw hpub hcell hrd=>
   rw [hl]
   refine .list sz m b off cap vs (by omega) hmax (fun i hi=>?_) (fun i j hi hj=>hpub i j (by omega) hj) (fun i j hi hj=>hcell i j (by omega) hj) (fun i j hi hj=>?_)
   ·obtain ⟨x,y,e1,e2,hxy⟩:=h i (by omega)
    have:=hw i (by omega)
    rw [e1] at this; rw [e2]
    simp only [PD.width] at this ⊢
    rw [← hxy.len]; exact this
   ·obtain ⟨x,y,e1,e2,hxy⟩:=h i (by omega)
    have:=hrd i j (by omega) hj
    rw [e1] at this; rw [e2]
    exact (hxy.get j).rd this
theorem R.up {C:Cx} {s:St} {k:List KI} (t:Nat) {d d':PD} (hn:t<s.n) (ht:s.get t = .pd d) (h:PUp d d') (next:R C k (s.set t (.pd d'))):R C k s:=by
 intro a w E g
 refine next a w E (g.reslot hn ?_ (by simp))
 have:=g.slots t
 rw [ht] at this
 exact h.rd this
end Go.Abs
end
section
namespace Go.Abs
def Cx.seg (P:Program) (w:World) (G:Pub) (post:Exit→Act→World→Prop) (df:List Deferred):Cx:={ P:=P,w0:=w,G0:=G,post:=post,dr:=false,df:=df }
section
variable (P:Program) (w:World) (G:Pub) (post:Exit→Act→World→Prop) (df:List Deferred)
theorem cgP:(Cx.seg P w G post df).P=P:=rfl
theorem cgV (t:Nat):(Cx.seg P w G post df).vb0 t=none:=rfl
theorem cgR (i:Nat):(Cx.seg P w G post df).rb0 i=none:=rfl
theorem cgW:(Cx.seg P w G post df).w0=w:=rfl
end
def SV.pure:SV→SV
 | .pd d=>.pd d
 | _=>.dead
def St.pure (s:St):St:=⟨s.n,s.slots.map fun p=>(p.1,p.2.pure),[],[],[],[]⟩
theorem St.get_pure (s:St) (t:Nat):s.pure.get t=(s.get t).pure:=by
 simp only [St.get,St.pure,lk_map]; cases lk t s.slots <;> rfl
abbrev E0 (G:Pub):Env:=⟨G,fun _=>0,fun _=>none,fun _=>0⟩
structure Seg (P:Program) (w:World) (G:Pub) (s:St) (a:Act) (df:List Deferred):Prop where
 size:a.tmps.size=s.n
 defers:a.defers=df
 good:Good w G
 slots:∀ t d,s.get t = .pd d→RdV w G (a.tmps.getD t undef) d
 only:∀ t,(∃ d,s.get t = .pd d)∨s.get t = .dead
 bare:s.vars=[]∧s.rows=[]∧s.maps=[]∧s.gs=[]
section
variable {P:Program} {w w':World} {G G':Pub} {s:St} {a:Act} {df:List Deferred} {C:Cx} {E:Env} {k:List KI} {all:Array Oper} {l:List Oper}
theorem Seg.gam (h:Seg P w G s a df) (post:Exit→Act→World→Prop):Gam (Cx.seg P w G post df) s a w (E0 G):=by
 obtain ⟨hv,hr,hm,hg⟩:=h.bare
 have nb:∀ t cs,s.get t≠.box cs:=fun t cs e=>by
  rcases h.only t with ⟨d,hd⟩ | hd <;> rw [hd] at e <;> cases e
 exact {
  kept:=Kept.refl _ _ _
  defers:=h.defers
  size:=h.size
  g0:=fun _ _ h=>h
  g1:=fun _ _ h=>.inl h
  gw:=h.good.lt
  tab:=h.good.tab
  slots:=fun t=>by
   rcases h.only t with ⟨d,hd⟩ | hd
   ·rw [hd]; exact h.slots t d hd
   ·rw [hd]; trivial
  ghosts:=fun t=>by simp only [St.gget,hg,lk,Option.getD_none]; trivial
  vars:=fun t cs h=>by simp [St.var,hv,lk] at h
  rows:=fun i r h=>by simp [St.row,hr,lk] at h
  maps:=fun r m h=>by simp [St.map,hm,lk] at h
  boxes:=fun t cs h=>(nb t cs h).elim
  vv:=fun t t' cs cs' h=>by simp [St.var,hv,lk] at h
  rr:=fun i i' r r' p h=>by simp [St.row,hr,lk] at h
  vr:=fun t cs i r p h=>by simp [St.var,hv,lk] at h
  bb:=fun t t' cs cs' h=>(nb t cs h).elim
  bv:=fun t t' cs cs' h=>(nb t cs h).elim
  br:=fun t cs i r p h=>(nb t cs h).elim
  vfix:=fun t b h=>by cases h
  rfix:=fun i p h=>by cases h
  rnew:=fun i r p h=>by simp [St.row,hr,lk] at h }
theorem Gam.toSeg (g:Gam C s a w E):Seg C.P w E.G s.pure a C.df where
 size:=g.size
 defers:=g.defers
 good:=g.good
 slots:=fun t d h=>by
  rw [St.get_pure] at h
  have:=g.slots t
  cases e:s.get t <;> rw [e] at h <;> simp only [SV.pure] at h <;> cases h
  rw [e] at this; exact this
 only:=fun t=>by
  rw [St.get_pure]
  cases s.get t <;> simp [SV.pure]
 bare:=⟨rfl,rfl,rfl,rfl⟩
theorem Seg.keep (h:Seg P w G s a df) (hk:Keeps w G w' G') (hg:∀ b o,G' b o→b<w'.heap.size):Seg P w' G' s a df:=
 ⟨h.size,h.defers,⟨hg,h.good.tab.keep hk⟩,fun t d ht=>(h.slots t d ht).keep hk,h.only,h.bare⟩
theorem Seg.put (h:Seg P w G s a df) {t:Nat} (ht:t<s.n) {v:Value} {d:PD} (hv:RdV w G v d):Seg P w G (s.set t (.pd d)) (a.put (some t) v) df where
 size:=(show (a.tmps.setIfInBounds t _).size=s.n by rw [Array.size_setIfInBounds]; exact h.size)
 defers:=h.defers
 good:=h.good
 slots:=fun j d' hj=>by
  rw [St.get_set] at hj
  rw [getD_put a t v j (by rw [h.size]; exact ht)]
  split at hj
  ·cases hj; rename_i e; rw [if_pos e]; exact hv
  ·rename_i e; rw [if_neg e]; exact h.slots j d' hj
 only:=fun j=>by
  rw [St.get_set]
  split
  ·exact .inl ⟨d,rfl⟩
  ·exact h.only j
 bare:=h.bare
theorem Seg.kill (h:Seg P w G s a df) {t:Nat} (ht:t<s.n) (v:Value):Seg P w G (s.set t .dead) (a.put (some t) v) df where
 size:=(show (a.tmps.setIfInBounds t _).size=s.n by rw [Array.size_setIfInBounds]; exact h.size)
 defers:=h.defers
 good:=h.good
 slots:=fun j d' hj=>by
  rw [St.get_set] at hj
  rw [getD_put a t v j (by rw [h.size]; exact ht)]
  split at hj
  ·cases hj
  ·rename_i e; rw [if_neg e]; exact h.slots j d' hj
 only:=fun j=>by
  rw [St.get_set]
  split
  ·exact .inr rfl
  ·exact h.only j
 bare:=h.bare
def bareK:List KI→Bool
 | []=>true
 | .loopEnd _::_=>false
 | _::k=>bareK k
theorem fin_congr {C C2:Cx} (hP:C2.P=C.P) (hp:C2.post=C.post):∀ k,bareK k=true→fin C2 k=fin C k
 | [],_=>by funext e a w; simp only [fin,hp]
 | .loopEnd J::k,h=>by cases h
 | .code c::k,h=>by
  have ih:=fin_congr hP hp k h
  funext e a w; cases e <;> simp only [fin,ih,hP]
 | .ops x y::k,h=>by
  have ih:=fin_congr hP hp k h
  funext e a w; cases e <;> simp only [fin,ih,hP]
 | .inBlock id::k,h=>by
  have ih:=fin_congr hP hp k h
  funext e a w; cases e <;> simp only [fin,ih]
theorem R.swK {s2:St} (hb:bareK k=true) (h:Seg C.P w G s2 a df) (hr:R (Cx.seg C.P w G C.post df) k s2):fin C k .normal a w:=by
 have:=hr a w _ (h.gam C.post)
 rwa [fin_congr (C:=C) (C2:=Cx.seg C.P w G C.post df) rfl rfl k hb] at this
theorem R.sw {s2:St} (hb:bareK k=true) (h:Seg C.P w G s2 a df) (hr:R (Cx.seg C.P w G C.post df) (.ops all l::k) s2):wpList C.P all (fin C k) l a w:=
 R.swK (k:=.ops all l::k) hb h hr
theorem wp_seg {c:Code} {Q:Exit→Act→World→Prop} (h:Seg P w G s a df) (hr:R (Cx.seg P w G Q df) [.code c] s):c.wp P Q a w:=hr a w _ (h.gam Q)
theorem fin_exit_none {id:Nat}:∀ {k:List KI},exitK id k=none→∀ a w,C.post (.exit id) a w→fin C k (.exit id) a w
 | [],_,_,_,hf=>hf
 | .inBlock id' :: k,h,a,w,hf=>by
  simp only [exitK] at h
  simp only [fin]
  split at h
  ·cases h
  ·rename_i e; rw [if_neg e]; exact fin_exit_none h a w hf
 | .code c::k,h,a,w,hf=>fin_exit_none (k:=k) (by simpa [exitK] using h) a w hf
 | .ops x y::k,h,a,w,hf=>fin_exit_none (k:=k) (by simpa [exitK] using h) a w hf
 | .loopEnd J::k,h,a,w,hf=>fin_exit_none (k:=k) (by simpa [exitK] using h) a w hf
theorem R.exitOut {id:Nat} (he:exitK id k=none) (h:∀ a w E,Gam C s a w E→C.post (.exit id) a w):R C (.code (.exit id)::k) s:=
 fun a w E g=>wp_exit (fin_exit_none he a w (h a w E g))
theorem R.loopS {c:Code} (I:Nat→Act→World→Prop) (n0:Nat) (h0:∀ a w E,Gam C s a w E→I n0 a w)
  (round:∀ n a w,I n a w→c.wp C.P (Exit.then (fun a' w'=>∃ n',n' < n∧I n' a' w') (fin C k)) a w):R C (.code (.loop c)::k) s:=by
 intro a w E g
 refine wp_loop_ghost I n0 (h0 a w E g) ?_
 intro n a w hI
 refine wp_mono (round n a w hI) ?_
 intro e a' w' hq
 cases e with
 | normal=>exact hq
 | exit id=>exact hq
 | goto l=>exact hq
 | ret=>exact hq
 | panic ch=>exact hq
 | outgrown=>exact hq
end
end Go.Abs
end
section
namespace Go.Abs
section
variable {C:Cx} {s:St} {a:Act} {w:World} {E:Env} {all:Array Oper} {l:List Oper} {k:List KI} {o:Oper}
theorem Gam.skipO (g:Gam C s a w E) (hd:dstOk s o):Gam C (s.put o.dst (.tpl [])) (a.put o.dst undef) w E:=
 g.putO hd (v:=.tpl []) ⟨#[],rfl,rfl,fun j hj=>by simp at hj⟩ (by simp)
theorem wanted_tpl (g:Gam C s a w E) {j t:Nat} {want:Bool} (hg:o.guard=some (j,want)) (hj:(all[j]?).bind (·.dst)=some t) (hc:s.get t = .tpl []):Region.wanted o (yielded all a.tmps)=false:=by
 have h:=g.slots t
 rw [hc] at h
 obtain ⟨vs,hv,_⟩:=h
 simp only [Region.wanted,hg,yielded,hj,Option.bind_some]
 have:a.tmps[t]? = none∨a.tmps[t]? = some (.tuple vs):=by
  cases h:a.tmps[t]? with
  | none=>exact .inl rfl
  | some u=>rw [Array.getD_eq_getD_getElem?,h] at hv; simp only [Option.getD_some] at hv; exact .inr (by rw [hv])
 rcases this with h | h <;> rw [h] <;> rfl
theorem R.gyes {j t:Nat} {want c:Bool} (hg:o.guard=some (j,want)) (hj:(all[j]?).bind (·.dst)=some t) (hc:s.get t = .pd (.raw (.bool c))) (hw:(c == want)=true)
  (h:R C (.ops all ({ o with guard:=none }::l)::k) s):R C (.ops all (o::l)::k) s:=fun a w E g=>by
 have:=h a w E g
 simp only [fin,wpList] at this ⊢
 rw [wanted_eq g hg hj hc,hw,if_pos rfl]
 exact this
theorem R.gno {j t:Nat} {want c:Bool} (hg:o.guard=some (j,want)) (hj:(all[j]?).bind (·.dst)=some t) (hc:s.get t = .pd (.raw (.bool c))) (hw:(c == want)=false) (hd:dstOk s o)
  (h:R C (.ops all l::k) (s.put o.dst (.tpl []))):R C (.ops all (o::l)::k) s:=fun a w E g=>by
 simp only [fin,wpList]
 rw [wanted_eq g hg hj hc,hw,if_neg (by simp)]
 exact h _ w E (g.skipO hd)
theorem R.gskip {j t:Nat} {want:Bool} (hg:o.guard=some (j,want)) (hj:(all[j]?).bind (·.dst)=some t) (hc:s.get t = .tpl []) (hd:dstOk s o)
  (h:R C (.ops all l::k) (s.put o.dst (.tpl []))):R C (.ops all (o::l)::k) s:=fun a w E g=>by
 simp only [fin,wpList]
 rw [wanted_tpl g hg hj hc,if_neg (by simp)]
 exact h _ w E (g.skipO hd)
end
def evL (C:Cx):Nat→List KI→St→Prop
 | 0,k,s=>R C k s
 | _+1,[],s=>R C [] s
 | n+1,.inBlock _::k,s=>evL C n k s
 | _+1,.loopEnd J::k,s=>R C (.loopEnd J::k) s
 | n+1,.ops _ []::k,s=>evL C n k s
 | n+1,.ops all (o::l)::k,s=>match o.guard with
  | none=>ev1 C all o l k s fun s'=>evL C n (.ops all l::k) s'
  | some (j,want)=>match (all[j]?).bind (·.dst) with
   | some t=>match s.get t with
    | .pd (.raw (.bool c))=>if (c == want)=true then ev1 C all { o with guard:=none } l k s fun s'=>evL C n (.ops all l::k) s' else dstP s o∧evL C n (.ops all l::k) (s.put o.dst (.tpl []))
    | .tpl []=>dstP s o∧evL C n (.ops all l::k) (s.put o.dst (.tpl []))
    | _=>R C (.ops all (o::l)::k) s
   | none=>R C (.ops all (o::l)::k) s
 | n+1,.code c::k,s=>match c with
  | .seq x y=>evL C n (.code x :: .code y::k) s
  | .skip=>evL C n k s
  | .block id c=>evL C n (.code c :: .inBlock id::k) s
  | .exit id=>match exitK id k with
   | some k'=>evL C n k' s
   | none=>R C (.code (.exit id)::k) s
  | .cond (.tmp t) x y=>match s.get t with
   | .pd (.raw (.bool b))=>if b=true then evL C n (.code x::k) s else evL C n (.code y::k) s
   | _=>R C (.code (.cond (.tmp t) x y)::k) s
  | .region _ ops false=>evL C n (.ops ops ops.toList::k) s
  | c=>R C (.code c::k) s
theorem evL_ok {C:Cx}:∀ (n:Nat) (k:List KI) (s:St),evL C n k s→R C k s
 | 0,k,s,h=>h
 | _+1,[],s,h=>h
 | n+1,.inBlock _::k,s,h=>R.inBlock (evL_ok n k s h)
 | _+1,.loopEnd J::k,s,h=>h
 | n+1,.ops _ []::k,s,h=>R.nil (evL_ok n k s h)
 | n+1,.ops all (o::l)::k,s,h=>by
  simp only [evL] at h
  split at h
  ·rename_i hg
   exact ev1_ok hg (fun s' h'=>evL_ok n _ s' h') h
  ·rename_i j want hg
   split at h
   ·rename_i t hj
    split at h
    ·rename_i c hc
     cases hw:(c == want) with
     | true=>rw [if_pos hw] at h; exact R.gyes hg hj hc hw (ev1_ok rfl (fun s' h'=>evL_ok n _ s' h') h)
     | false=>rw [if_neg (by simp [hw])] at h; exact R.gno hg hj hc hw (dstP_ok h.1) (evL_ok n _ _ h.2)
    ·rename_i hc
     exact R.gskip hg hj hc (dstP_ok h.1) (evL_ok n _ _ h.2)
    ·exact h
   ·exact h
 | n+1,.code c::k,s,h=>by
  unfold evL at h
  split at h
  ·exact R.seq (evL_ok n _ s h)
  ·exact R.skip (evL_ok n _ s h)
  ·exact R.block (evL_ok n _ s h)
  ·split at h
   ·rename_i k' he; exact R.exit he (evL_ok n _ s h)
   ·exact h
  ·split at h
   ·rename_i b hb; exact R.cond hb (fun e=>by rw [if_pos e] at h; exact evL_ok n _ s h) (fun e=>by rw [if_neg (by simp [e])] at h; exact evL_ok n _ s h)
   ·exact h
  ·exact R.region (evL_ok n _ s h)
  ·exact h
theorem evL8 {C:Cx} {k:List KI} {s:St} (h:evL C 80 k s):R C k s:=evL_ok 80 k s h
end Go.Abs
end
