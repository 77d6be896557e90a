/- A part of the proof. -/
import Derived.Test.YtgeljjfmcmbejaaGreatDoorPThD
import Derived.Orders
import Derived.Below
set_option linter.all false
set_option linter.deprecated false
set_option maxRecDepth 100000
set_option maxHeartbeats 4000000
namespace Go.au
variable {a w':World}{d:PD}{v:Value}
structure Below(B:Nat)(w w':World):Prop extends Go.RowKit.Below B w w' where
 drawn:w.drawn<=w'.drawn
def Below.refl(B:Nat)(w:World):Below B w w:=⟨Go.RowKit.Below.refl B w,a3 _⟩
def Below.trans{B:Nat}{b c:World}(h:Below B a b)(k:Below B b c):Below B a c:=⟨h.toBelow.trans k.toBelow,bz h.drawn k.drawn⟩
def Below.mono{A B:Nat}{w:World}(h:Below B w w')(H:A<=B):Below A w w':=⟨h.toBelow.mono H,h.drawn⟩
def Below.alloc{B:Nat}{w:World}(h:Below B w w')(H:B<=w'.heap.size)(o:Obj):Below B w (w'.alloc o):=⟨h.toBelow.alloc H o,h.drawn⟩
def Below.drew{B:Nat}{w:World}(h:Below B w w'):Below B w w'.drew:=⟨h.toBelow.drew,pP h.drawn⟩
def Below.cell{B:Nat}{w:World}(h:Below B w w'){p:Addr}(H:p.block<B):w'.cell? p=w.cell? p:=h.toBelow.cell H
def PD.width:PD->Nat
 | .ak d=>d.length
 |_=>1
def PD.cell:PD->Nat->PD
 | .ak D,j=>D.getD j (.ak [])
 |d,_=>d
def PD.cells:PD->List PD
 | .ak D=>D
 |d=>[d]
def PD.fZ:PD->Bool
 | .ak _=>true
 |_=>false
def PD.bD(d:PD):d.cells.length=d.width:=by cases d<;>rfl
def PD.jy(d:PD)(j:Nat)(h:j<d.width):d.cells.getD j (.ak [])=d.cell j:=by
 cases d with
 |ak D=>rfl
 |raw v=>simp only [PD.width]at h;obtain rfl:j=0:=by omega
         rfl
 |list s D=>simp only [PD.width]at h;obtain rfl:j=0:=by omega
            rfl
 |clo f D=>simp only [PD.width]at h;obtain rfl:j=0:=by omega
           rfl
 |mp k D=>simp only [PD.width]at h;obtain rfl:j=0:=by omega
          rfl
 |ptr d=>simp only [PD.width]at h;obtain rfl:j=0:=by omega
         rfl
 |unk=>simp only [PD.width]at h;obtain rfl:j=0:=by omega
       rfl
abbrev Pub:=Nat->Nat->Prop
variable {G G':Pub}
inductive Rd(w:World)(G:Pub):Value->PD->Prop
 |raw (v:Value) (h:v.oneCell'=true):Rd w G v (.raw v)
 |nil (sz:Nat):Rd w G (.slice none 0 0) (.list sz [])
 |empty (sz:Nat) (a:Addr):Rd w G (.slice (some a) 0 0) (.list sz [])
 |list (sz:Nat) (ds:List PD) (b off cap:Nat) (vs:Nat->Nat->Value)
   (hcap:ds.length<=cap) (hmax:cap<=maxLen)
   (hw:∀i,i<ds.length->(ds.getD i (.ak [])).width=sz)
   (fQ:∀i j,i<ds.length->j<sz->G b (off+i*sz+j))
   (hcell:∀i j,i<ds.length->j<sz->w.cell? ⟨b,off+i*sz+j,none⟩=some (vs i j))
   (hrd:∀i j,i<ds.length->j<sz->Rd w G (vs i j) ((ds.getD i (.ak [])).cell j)):
   Rd w G (.slice (some ⟨b,off,none⟩) ds.length cap) (.list sz ds)
 |clo (f:FuncId) (ds:List PD) (bs:List (Nat×Nat)) (vs:Nat->Nat->Value) (hl:bs.length=ds.length)
   (fQ:∀i j,i<ds.length->j<(ds.getD i (.ak [])).width->G (bs.getD i (0,0)).1 ((bs.getD i (0,0)).2+j))
   (hcell:∀i j,i<ds.length->j<(ds.getD i (.ak [])).width->w.cell? ⟨(bs.getD i (0,0)).1,(bs.getD i (0,0)).2+j,none⟩=some (vs i j))
   (hrd:∀i j,i<ds.length->j<(ds.getD i (.ak [])).width->Rd w G (vs i j) ((ds.getD i (.ak [])).cell j)):
   Rd w G (.func (.func f) #[] (bs.map λp=>Value.pointer (some ⟨p.1,p.2,none⟩)).toArray) (.clo f ds)
 |mp (ks:List Value) (ds:List PD) (r:Nat) (es:Array MapEntry) (clock:Nat) (cs:Nat->Array Value) (hg:G r 0) (hb:w.heap[r]? =some (.map es clock))
   (hs:es.size=ks.length) (hl:ds.length=ks.length) (hk:∀i,i<ks.length->(es.getD i default).key=ks.getD i undef)
   (hv:∀i,i<ks.length->(es.getD i default).val=(if(ds.getD i (.ak [])).fZ then .agg (cs i)else(cs i).getD 0 undef)/\((ds.getD i (.ak [])).fZ=true->(cs i).size=(ds.getD i (.ak [])).width))
   (hrd:∀i j,i<ks.length->j<(ds.getD i (.ak [])).width->Rd w G ((cs i).getD j undef) ((ds.getD i (.ak [])).cell j)):
   Rd w G (.map (some r)) (.mp ks ds)
 |ptr (d:PD) (b off:Nat) (vs:Nat->Value) (fQ:∀j,j<d.width->G b (off+j)) (hcell:∀j,j<d.width->w.cell? ⟨b,off+j,none⟩=some (vs j)) (hrd:∀j,j<d.width->Rd w G (vs j) (d.cell j)):
   Rd w G (.pointer (some ⟨b,off,none⟩)) (.ptr d)
 |unk (v:Value) (h:v.oneCell'=true):Rd w G v .unk
def lD(w:World)(G:Pub)(b off:Nat)(d:PD):Prop:=
 ∀j,j<d.width->G b (off+j)/\∃v,w.cell? ⟨b,off+j,none⟩=some v/\Rd w G v (d.cell j)
def aH(w:World)(G:Pub)(v:Value):PD->Prop
 | .ak D=>∃C:Array Value,v= .agg C/\C.size=D.length/\∀j,j<D.length->Rd w G (C.getD j undef) (D.getD j (.ak []))
 |d=>Rd w G v d
structure Keeps(w:World)(G:Pub)(w':World)(G':Pub):Prop where
 pub:∀b o,G b o->G' b o
 cell:∀b o,G b o->w'.cell? ⟨b,o,none⟩=w.cell? ⟨b,o,none⟩
 obj:∀b o,G b o->w'.heap[b]? =w.heap[b]?
def Keeps.same{w:World}(h:∀b o,G b o->G' b o):Keeps w G w G':=⟨h,λ_ _ _=>rfl,λ_ _ _=>rfl⟩
def Keeps.refl(w:World)(G:Pub):Keeps w G w G:=.same λ_ _ h=>h
def Keeps.trans{w:World}{d:Pub}(h:Keeps w G w' G')(k:Keeps w' G' a d):Keeps w G a d:=
 ⟨λb o g=>k.pub b o (h.pub b o g),λb o g=>(k.cell b o (h.pub b o g)).trans (h.cell b o g),λb o g=>(k.obj b o (h.pub b o g)).trans (h.obj b o g)⟩
def Keeps.map{w:World}(k:Keeps w G w' G')(b o:Nat)(es:Array MapEntry)(c:Nat)(g:G b o)(h:w.heap[b]? =some (.map es c)):w'.heap[b]? =some (.map es c):=(k.obj b o g).trans h
def Rd.keep{w:World}(k:Keeps w G w' G')(h:Rd w G v d):Rd w' G' v d:=by
 induction h with
 |raw v h=>exact .raw v h
 |nil z=>exact .nil z
 |empty z a=>exact .empty z a
 |list z D b off n s p x q Q H _ l=>
  exact .list z D b off n s p x q (λi j g e=>k.pub _ _ (Q i j g e)) (λi j g e=>(k.cell _ _ (Q i j g e)).trans (H i j g e)) l
 |clo f D bs s m Q H _ l=>exact .clo f D bs s m (λi j g e=>k.pub _ _ (Q i j g e)) (λi j g e=>(k.cell _ _ (Q i j g e)).trans (H i j g e)) l
 |mp K D r E C L o J u m A t _ l=>exact .mp K D r E C L (k.pub _ _ o) (k.map r 0 E C o J) u m A t l
 |ptr d b off s Q H _ l=>exact .ptr d b off s (λj e=>k.pub _ _ (Q j e)) (λj e=>(k.cell _ _ (Q j e)).trans (H j e)) l
 |unk v h=>exact .unk v h
def lD.keep{w:World}(k:Keeps w G w' G'){b off:Nat}(h:lD w G b off d):lD w' G' b off d:=
 λj H=>let⟨g,v,hc,hr⟩:=h j H;⟨k.pub _ _ g,v,(k.cell _ _ g).trans hc,hr.keep k⟩
def aH.keep{w:World}(k:Keeps w G w' G')(h:aH w G v d):aH w' G' v d:=by
 cases d with
 |raw _=>exact Rd.keep k h
 |list _ _=>exact Rd.keep k h
 |clo _ _=>exact Rd.keep k h
 |mp _ _=>exact Rd.keep k h
 |ptr _=>exact Rd.keep k h
 |unk=>exact Rd.keep k h
 |ak D=>obtain⟨C,rfl,H,r⟩:=h;exact⟨C,rfl,H,λj a=>(r j a).keep k⟩
def Rd.oneCell{w:World}(h:Rd w G v d):v.oneCell'=true:=by
 cases h<;>first|assumption|rfl
def Rd.XT{w:World}{ds:List PD}(h:Rd w G v (.ak ds)):False:=xa
def Rd.width{w:World}(h:Rd w G v d):d.width=1:=by cases h<;>rfl
def Rd.cell0{w:World}(h:Rd w G v d):d.cell 0=d:=by cases h<;>rfl
def Rd.tV{w:World}(h:Rd w G v d):aH w G v d:=by
 cases d with
 |raw _=>exact h
 |list _ _=>exact h
 |clo _ _=>exact h
 |mp _ _=>exact h
 |ptr _=>exact h
 |unk=>exact h
 |ak D=>exact h.XT.elim
def aH.aC{w:World}{u:Value}(h:aH w G v (.raw u)):v=u:=by cases h;rfl
def addr_add(b off n:Nat):(⟨b,off,none⟩:Addr).add n=⟨b,off+n,none⟩:=by
 unfold Addr.add;split
 ·subst_vars;rfl
 ·rfl
def TB:Nat:=3
def TV(i:Nat):Value:=.int .u64 ((10 ^ i:Nat):Int)
def TA:Array Value:=((List.range 20).map TV).toArray
def Tab(w:World)(G:Pub):Prop:=G TB 0/\∃e d,w.heap[TB]? =some (.cells TA e d)
def Tab.keep{w:World}(h:Tab w G)(k:Keeps w G w' G'):Tab w' G':=⟨k.pub _ _ h.1,let⟨e,d,hb⟩:=h.2;⟨e,d,(k.obj _ _ h.1).trans hb⟩⟩
structure Good(w:World)(G:Pub):Prop where
 lt:∀b o,G b o->b<w.heap.size
 tab:Tab w G
def Pub.new(G:Pub)(n:Nat):Pub:=λb o=>G b o\/n<=b
def Keeps.of_below{w:World}{n:Nat}(H:∀b o,G b o->b<n)(h:Below n w w')(a:∀b o,G b o->G' b o):Keeps w G w' G':=
 ⟨a,λb o g=>h.cell (p:=⟨b,o,none⟩) (H b o g),λb o g=>h.block b (H b o g)⟩
def Keeps.uU{w:World}{n:Nat}(H:∀b o,G b o->b<n)(h:Go.RowKit.Below n w w')(a:∀b o,G b o->G' b o):Keeps w G w' G':=
 ⟨a,λb o g=>h.cell (p:=⟨b,o,none⟩) (H b o g),λb o g=>h.block b (H b o g)⟩
end Go.au
