/- A part of the proof. -/
import Derived.Test.YtjbhhddfaohdnaaGreatDoorPThD
import Derived.Orders
import Derived.Below
set_option linter.all false
set_option linter.deprecated false
namespace Go.au
structure Below (B:Nat) (w w':World):Prop extends Go.RowKit.Below B w w' where
 drawn:w.drawn≤w'.drawn
theorem Below.refl (B:Nat) (w:World):Below B w w:=⟨Go.RowKit.Below.refl B w,aew _⟩
theorem Below.trans {B:Nat} {a b c:World} (h:Below B a b) (k:Below B b c):Below B a c:=⟨h.toBelow.trans k.toBelow,ajk h.drawn k.drawn⟩
theorem Below.alloc {B:Nat} {w w':World} (h:Below B w w') (hb:B≤w'.heap.size) (o:Obj):Below B w (w'.alloc o):=⟨h.toBelow.alloc hb o,h.drawn⟩
theorem Below.drew {B:Nat} {w w':World} (h:Below B w w'):Below B w w'.drew:=⟨h.toBelow.drew,Nat.le_succ_of_le h.drawn⟩
theorem Below.cell {B:Nat} {w w':World} (h:Below B w w') {p:Addr} (hp:p.block<B):w'.cell? p=w.cell? p:=h.toBelow.cell hp
def PD.width:PD→Nat
 | .ak ds=>ds.length
 | _=>1
def PD.cell:PD→Nat→PD
 | .ak ds,j=>ds.getD j (.ak [])
 | d,_=>d
def PD.cells:PD→List PD
 | .ak ds=>ds
 | d=>[d]
def PD.iI:PD→Bool
 | .ak _=>true
 | _=>false
theorem PD.dh (d:PD):d.cells.length=d.width:=by cases d <;> rfl
theorem PD.mD (d:PD) (j:Nat) (h:j<d.width):d.cells.getD j (.ak [])=d.cell j:=by
 cases d with
 | ak ds=>rfl
 | raw v=>simp only [PD.width] at h; obtain rfl:j=0:=by omega
          rfl
 | list sz ds=>simp only [PD.width] at h; obtain rfl:j=0:=by omega
               rfl
 | clo f ds=>simp only [PD.width] at h; obtain rfl:j=0:=by omega
             rfl
 | mp ks ds=>simp only [PD.width] at h; obtain rfl:j=0:=by omega
             rfl
abbrev Pub:=Nat→Nat→Prop
inductive Rd (w:World) (G:Pub):Value→PD→Prop
 | raw (v:Value) (h:v.oneCell'=true):Rd w G v (.raw v)
 | nil (sz:Nat):Rd w G (.slice none 0 0) (.list sz [])
 | empty (sz:Nat) (a:Addr):Rd w G (.slice (some a) 0 0) (.list sz [])
 | list (sz:Nat) (ds:List PD) (b off cap:Nat) (vs:Nat→Nat→Value)
   (hcap:ds.length≤cap) (hmax:cap≤maxLen)
   (hw:∀ i,i<ds.length→(ds.getD i (.ak [])).width=sz)
   (iU:∀ i j,i<ds.length→j<sz→G b (off+i * sz+j))
   (hcell:∀ i j,i<ds.length→j<sz→w.cell? ⟨b,off+i * sz+j,none⟩=some (vs i j))
   (hrd:∀ i j,i<ds.length→j<sz→Rd w G (vs i j) ((ds.getD i (.ak [])).cell j)):
   Rd w G (.slice (some ⟨b,off,none⟩) ds.length cap) (.list sz ds)
 | clo (f:FuncId) (ds:List PD) (bs:List (Nat × Nat)) (vs:Nat→Nat→Value) (hl:bs.length=ds.length)
   (iU:∀ i j,i<ds.length→j<(ds.getD i (.ak [])).width→G (bs.getD i (0,0)).1 ((bs.getD i (0,0)).2+j))
   (hcell:∀ i j,i<ds.length→j<(ds.getD i (.ak [])).width→w.cell? ⟨(bs.getD i (0,0)).1,(bs.getD i (0,0)).2+j,none⟩=some (vs i j))
   (hrd:∀ i j,i<ds.length→j<(ds.getD i (.ak [])).width→Rd w G (vs i j) ((ds.getD i (.ak [])).cell j)):
   Rd w G (.func (.func f) #[] (bs.map fun p=>Value.pointer (some ⟨p.1,p.2,none⟩)).toArray) (.clo f ds)
 | mp (ks:List Value) (ds:List PD) (r:Nat) (es:Array MapEntry) (clock:Nat) (cs:Nat→Array Value) (hg:G r 0) (hb:w.heap[r]? = some (.map es clock))
   (hs:es.size=ks.length) (hl:ds.length=ks.length) (hk:∀ i,i<ks.length→(es.getD i default).key=ks.getD i undef)
   (hv:∀ i,i<ks.length→(es.getD i default).val=(if (ds.getD i (.ak [])).iI then .agg (cs i) else (cs i).getD 0 undef)∧((ds.getD i (.ak [])).iI=true→(cs i).size=(ds.getD i (.ak [])).width))
   (hrd:∀ i j,i<ks.length→j<(ds.getD i (.ak [])).width→Rd w G ((cs i).getD j undef) ((ds.getD i (.ak [])).cell j)):
   Rd w G (.map (some r)) (.mp ks ds)
def lX (w:World) (G:Pub) (b off:Nat) (d:PD):Prop:=
 ∀ j,j<d.width→G b (off+j)∧∃ v,w.cell? ⟨b,off+j,none⟩=some v∧Rd w G v (d.cell j)
def aN (w:World) (G:Pub) (v:Value):PD→Prop
 | .ak ds=>∃ cs:Array Value,v = .agg cs∧cs.size=ds.length∧∀ j,j<ds.length→Rd w G (cs.getD j undef) (ds.getD j (.ak []))
 | d=>Rd w G v d
structure Keeps (w:World) (G:Pub) (w':World) (G':Pub):Prop where
 pub:∀ b o,G b o→G' b o
 cell:∀ b o,G b o→w'.cell? ⟨b,o,none⟩=w.cell? ⟨b,o,none⟩
 obj:∀ b o,G b o→w'.heap[b]? = w.heap[b]?
theorem Keeps.same {w:World} {G G':Pub} (h:∀ b o,G b o→G' b o):Keeps w G w G':=⟨h,fun _ _ _=>rfl,fun _ _ _=>rfl⟩
theorem Keeps.refl (w:World) (G:Pub):Keeps w G w G:=.same fun _ _ h=>h
theorem Keeps.trans {w w' w'':World} {G G' G'':Pub} (h:Keeps w G w' G') (k:Keeps w' G' w'' G''):Keeps w G w'' G'':=
 ⟨fun b o g=>k.pub b o (h.pub b o g),fun b o g=>(k.cell b o (h.pub b o g)).trans (h.cell b o g),fun b o g=>(k.obj b o (h.pub b o g)).trans (h.obj b o g)⟩
theorem Keeps.map {w w':World} {G G':Pub} (k:Keeps w G w' G') (b o:Nat) (es:Array MapEntry) (c:Nat) (g:G b o) (h:w.heap[b]? = some (.map es c)):w'.heap[b]? = some (.map es c):=(k.obj b o g).trans h
theorem Rd.keep {w w':World} {G G':Pub} (k:Keeps w G w' G') {v:Value} {d:PD} (h:Rd w G v d):Rd w' G' v d:=by
 induction h with
 | raw v h=>exact .raw v h
 | nil sz=>exact .nil sz
 | empty sz a=>exact .empty sz a
 | list sz ds b off cap vs hcap hmax hw iU hcell _ ih=>
  exact .list sz ds b off cap vs hcap hmax hw (fun i j hi hj=>k.pub _ _ (iU i j hi hj)) (fun i j hi hj=>(k.cell _ _ (iU i j hi hj)).trans (hcell i j hi hj)) ih
 | clo f ds bs vs hl iU hcell _ ih=>exact .clo f ds bs vs hl (fun i j hi hj=>k.pub _ _ (iU i j hi hj)) (fun i j hi hj=>(k.cell _ _ (iU i j hi hj)).trans (hcell i j hi hj)) ih
 | mp ks ds r es clock cs hg hb hs hl hk hv _ ih=>exact .mp ks ds r es clock cs (k.pub _ _ hg) (k.map r 0 es clock hg hb) hs hl hk hv ih
theorem lX.keep {w w':World} {G G':Pub} (k:Keeps w G w' G') {b off:Nat} {d:PD} (h:lX w G b off d):lX w' G' b off d:=
 fun j hj=>let ⟨g,v,hc,hr⟩:=h j hj; ⟨k.pub _ _ g,v,(k.cell _ _ g).trans hc,hr.keep k⟩
theorem aN.keep {w w':World} {G G':Pub} (k:Keeps w G w' G') {v:Value} {d:PD} (h:aN w G v d):aN w' G' v d:=by
 cases d with
 | raw _=>exact Rd.keep k h
 | list _ _=>exact Rd.keep k h
 | clo _ _=>exact Rd.keep k h
 | mp _ _=>exact Rd.keep k h
 | ak ds=>obtain ⟨cs,rfl,hs,hr⟩:=h; exact ⟨cs,rfl,hs,fun j hj=>(hr j hj).keep k⟩
theorem Rd.oneCell {w:World} {G:Pub} {v:Value} {d:PD} (h:Rd w G v d):v.oneCell'=true:=by
 cases h <;> first | assumption | rfl
theorem Rd.U1 {w:World} {G:Pub} {v:Value} {ds:List PD} (h:Rd w G v (.ak ds)):False:=by cases h
theorem Rd.cell0 {w:World} {G:Pub} {v:Value} {d:PD} (h:Rd w G v d):d.cell 0=d:=by cases h <;> rfl
theorem Rd.CJ {w:World} {G:Pub} {v:Value} {d:PD} (h:Rd w G v d):aN w G v d:=by
 cases d with
 | raw _=>exact h
 | list _ _=>exact h
 | clo _ _=>exact h
 | mp _ _=>exact h
 | ak ds=>exact h.U1.elim
theorem aN.aK {w:World} {G:Pub} {v u:Value} (h:aN w G v (.raw u)):v=u:=by cases h; rfl
theorem addr_add (b off n:Nat):(⟨b,off,none⟩:Addr).add n=⟨b,off+n,none⟩:=by
 unfold Addr.add; split
 ·subst_vars; rfl
 ·rfl
def TB:Nat:=0
def TV (i:Nat):Value:=.int .u64 ((10 ^ i:Nat):Int)
def TA:Array Value:=((List.range 20).map TV).toArray
def Tab (w:World) (G:Pub):Prop:=G TB 0∧∃ e d,w.heap[TB]? = some (.cells TA e d)
theorem Tab.keep {w w':World} {G G':Pub} (h:Tab w G) (k:Keeps w G w' G'):Tab w' G':=⟨k.pub _ _ h.1,let ⟨e,d,hb⟩:=h.2; ⟨e,d,(k.obj _ _ h.1).trans hb⟩⟩
structure Good (w:World) (G:Pub):Prop where
 lt:∀ b o,G b o→b<w.heap.size
 tab:Tab w G
def Pub.new (G:Pub) (n:Nat):Pub:=fun b o=>G b o∨n≤b
theorem Keeps.of_below {w w':World} {G:Pub} {n:Nat} (hG:∀ b o,G b o→b<n) (h:Below n w w') {G':Pub} (hp:∀ b o,G b o→G' b o):Keeps w G w' G':=
 ⟨hp,fun b o g=>h.cell (p:=⟨b,o,none⟩) (hG b o g),fun b o g=>h.block b (hG b o g)⟩
theorem Keeps.tN {w w':World} {G:Pub} {n:Nat} (hG:∀ b o,G b o→b<n) (h:Go.RowKit.Below n w w') {G':Pub} (hp:∀ b o,G b o→G' b o):Keeps w G w' G':=
 ⟨hp,fun b o g=>h.cell (p:=⟨b,o,none⟩) (hG b o g),fun b o g=>h.block b (hG b o g)⟩
end Go.au
