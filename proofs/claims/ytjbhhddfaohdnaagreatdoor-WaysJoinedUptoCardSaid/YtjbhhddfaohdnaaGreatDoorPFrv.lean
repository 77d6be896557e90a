/- A part of the proof: Fm, Oq, T1, T2, T3, T4, T5, T6, T7, T8, Frv. -/
import Derived.Test.YtjbhhddfaohdnaaGreatDoorCards
import Derived.Test.YtjbhhddfaohdnaaGreatDoorTie
import Derived.WalkKit
import Derived.ProofKit
import Derived.OpenShut
import Derived.Below
import Derived.Deep.DeepHandedRow
import Derived.Lib.LaidTab
import Derived.Lib.ItoaNum
import Derived.Stop.LaidErr
import Derived.Test.YtjbhhddfaohdnaaGreatDoorPAy3
import Derived.Test.YtjbhhddfaohdnaaGreatDoorPBase
import Derived.Test.YtjbhhddfaohdnaaGreatDoorPPw
set_option linter.all false
set_option linter.deprecated false
section
namespace Go.Proofs.YtjbhhddfaohdnaaGreatDoor
open Go Go.Proofs Go.Abs Go.ChangeShapes Go.WideShapes Go.ChangeAt Go.RowKit
set_option maxRecDepth 100000
theorem ownK:ownKnob Tryz.prog.godebug=none:=by kernel_rfl
theorem laidOut:laidOutB Tryz.prog=true:=by kernel_rfl
abbrev laid3:List (String × DataW Unit):=[("math/bits.deBruijn32tab",Rows.laid_math_bits_deBruijn32tab),("math/bits.deBruijn64tab",Rows.laid_math_bits_deBruijn64tab),("internal/strconv.uint64pow10",Rows.laid_internal_strconv_uint64pow10)]
theorem gPow:Tryz.prog.globalNamed "internal/strconv.uint64pow10" = some TB:=by kernel_rfl
theorem pow_of_laid {W:World} (h:laidMetH Tryz.prog laid3 W):Lib.TabIs Tryz.prog W "internal/strconv.uint64pow10" .u64 Lib.pow10Tab:=by
 have h:laidMet Tryz.prog laid3 W:=h
 have h2:=laidMet.tail (laidMet.tail h)
 exact Lib.tabIs_of_head (t:=370) (e:=203) (n:=20) (rest:=[]) (zs:=Lib.pow10Tab) gPow (by kernel_rfl) (by kernel_rfl) (by kernel_rfl) (by kernel_rfl) (by kernel_rfl) h2
theorem good_of_laid {W:World} (h:laidMetH Tryz.prog laid3 W):Go.Abs.Good W (Pub.heap W):=by
 have hp:=pow_of_laid h
 unfold Lib.TabIs World.var? at hp
 rw [gPow] at hp
 simp only [Option.bind_some] at hp
 cases hh:W.heap[TB]? with
 | none=>simp [hh] at hp
 | some o=>
  cases o with
  | cells cs e d=>
   simp only [hh,Option.some.injEq] at hp
   refine ⟨fun _ _ h=>h,(Array.getElem?_eq_some_iff.1 hh).1,e,d,?_⟩
   rw [hh,hp]
   simp [TA,TV,Lib.pow10Tab]
  | _=>simp [hh] at hp
def setTab (h:Array Obj) (g:Nat) (c:Array Value):Array Obj:=h.modify g fun
 | .cells _ t frozen=>.cells c t frozen
 | o=>o
noncomputable def laidWorld (os:Os) (c0 c1 c2:Array Value):World:=
 { World.holding Tryz.prog os ⟨#[],#[],[]⟩ with heap:=setTab (setTab (setTab (World.holding Tryz.prog os ⟨#[],#[],[]⟩).heap 0 c0) 1 c1) 2 c2 }
def litsOf {H:Type}:DataW H→Array Value
 | .agg l=>(l.map fun x=>match x with | .lit (.int k n)=>Value.int k n | _=>undef).toArray
 | _=>#[]
noncomputable def theWorld (os:Os):World:=laidWorld os (litsOf (H:=Unit) Rows.laid_internal_strconv_uint64pow10) (litsOf (H:=Unit) Rows.laid_math_bits_deBruijn32tab) (litsOf (H:=Unit) Rows.laid_math_bits_deBruijn64tab)
end Go.Proofs.YtjbhhddfaohdnaaGreatDoor
end
section
namespace Go.Proofs.YtjbhhddfaohdnaaGreatDoor
open Go Go.Proofs Go.Abs Go.ChangeShapes Go.WideShapes
section
variable {H:Type}
theorem bulk_pos (d:DataW H):1≤Rows.uptoBulk d:=by
 cases d with
 | lit l=>cases l <;> simp [Rows.uptoBulk]
 | _=>simp [Rows.uptoBulk]
theorem bulk_mem {d:DataW H}:∀ {l:List (DataW H)},d∈l→Rows.uptoBulk d≤Rows.uptoBulkAll l
 | [],h=>by simp at h
 | e::l,h=>by
  simp only [Rows.uptoBulkAll]
  rcases List.mem_cons.1 h with rfl | h
  ·omega
  ·have:=bulk_mem h; omega
theorem bulk_len:∀ (l:List (DataW H)),l.length≤Rows.uptoBulkAll l
 | []=>by simp
 | e::l=>by
  have h1:=bulk_pos e
  have h2:=bulk_len l
  simp only [Rows.uptoBulkAll,List.length_cons]; omega
variable (enc:TypeId × Value→H) (P:Program) (w:World)
def OpF {α:Type} (N:Nat) (t:TypeId) (sz:Nat) (e:α→PD) (Q:α→Prop):Prop:=
 (∀ a,(e a).width=sz)∧∀ fuel,fuel≤N→∀ cs x,DataW.trod enc P w 0 (fun _=>true) true fuel t cs=some x→Rows.uptoBulk x.1≤1048576→∃ a:α,cs.length=sz∧Q a∧∀ j,j<sz→Rd w (Pub.heap w) (cs.getD j undef) ((e a).cell j)
variable {enc} {P} {w}
theorem opF_int {N:Nat} {t:TypeId} {k:IntKind} (ht:P.underlying t=some (.int k)):OpF enc P w N t 1 (fun n:Int=>.raw (.int k n)) (fun _=>True):=by
 refine ⟨fun _=>rfl,fun fuel _ cs x h _=>?_⟩
 obtain ⟨a,h1,h2⟩:=(opens_int (enc:=enc) (w:=w) ht).2 fuel cs x h
 exact ⟨a,h1,trivial,h2⟩
theorem opF_string {N:Nat} {t:TypeId} (ht:P.underlying t=some .string):OpF enc P w N t 1 (fun s:ByteArray=>.raw (.string s)) (fun s=>s.size≤1048576):=by
 refine ⟨fun _=>rfl,fun fuel _ cs x h hb=>?_⟩
 cases fuel with
 | zero=>simp [DataW.trod] at h
 | succ m=>
  unfold DataW.trod at h
  rw [ht] at h
  split at h <;> simp_all
  obtain ⟨_,rfl⟩:=h
  rename_i s _
  simp only [Rows.uptoBulk,Array.length_toList] at hb
  exact ⟨s,by have:s.size=s.data.size:=rfl; omega,.raw _ rfl⟩
theorem opF_slice {α:Type} {N:Nat} {t e:TypeId} {sz:Nat} {f:α→PD} {Q:α→Prop} (he:OpF enc P w N e sz f Q) (h0:0<sz) (ht:P.underlying t=some (.slice e)) (hc:P.cellsOf e=sz):OpF enc P w N t 1 (fun l:List α=>.list sz (l.map f)) (fun l=>l.length≤1048576∧∀ y∈l,Q y):=by
 refine ⟨fun _=>rfl,fun fuel hN cs x h hbk=>?_⟩
 rcases DataW.trod_slice ht h with ⟨rfl,_⟩ | ⟨a,len,cap,elems,rest,n,rfl,rfl,rfl,hb,hl,hm,hlen,hel,hsp,_⟩
 ·refine ⟨[],rfl,⟨by simp,by simp⟩,fun j hj=>?_⟩
  have:j=0:=by omega
  subst this
  exact .nil sz
 ·obtain ⟨hrl,hrest⟩:=hsp rfl
  simp only [Rows.uptoBulk] at hbk
  have hbl:=bulk_len (elems.map (·.1))
  rw [List.length_map] at hbl
  have hel2:∀ i,i<len→∃ y:α,Q y∧∀ j,j<sz→∃ v,w.cell? (a.add (i * sz+j))=some v∧Rd w (Pub.heap w) v ((f y).cell j):=by
   intro i hi
   have h1:=hel i hi
   have hie:i<elems.length:=by omega
   rw [List.getElem?_eq_getElem hie] at h1
   obtain ⟨cs',h2,h3⟩:=Option.bind_eq_some_iff.1 h1
   rw [hc] at h2
   obtain ⟨_,hlen',hcell⟩:=World.cells?_some h2
   have hbm:=bulk_mem (List.mem_map.2 ⟨elems[i],List.getElem_mem hie,rfl⟩:elems[i].1∈elems.map (·.1))
   obtain ⟨y,_,hq,h4⟩:=he.2 n (by omega) cs' _ h3 (by omega)
   refine ⟨y,hq,fun j hj=>?_⟩
   have h5:=hcell j (by omega)
   have hj2:j<cs'.length:=by omega
   refine ⟨cs'.getD j undef,?_,h4 j hj⟩
   rw [Go.Deep.add_add] at h5
   simpa [hj2] using h5
  by_cases hpos:cap=0
  ·subst hpos
   have hz:len=0:=by omega
   subst hz
   refine ⟨[],rfl,⟨by simp,by simp⟩,fun j hj=>?_⟩
   have:j=0:=by omega
   subst this
   exact .empty sz a
  ·have hspot:a.spot=none:=by
    by_cases hl0:0<len
    ·obtain ⟨y,_,hy⟩:=hel2 0 hl0
     obtain ⟨v0,hv0,_⟩:=hy 0 h0
     have:=World.cell?_spot hv0
     simpa [Addr.add] using this
    ·have h1:=hrest 0 (by omega)
     have hr0:0<rest.length:=by omega
     rw [List.getElem?_eq_getElem hr0] at h1
     obtain ⟨cs',h2,h3⟩:=Option.bind_eq_some_iff.1 h1
     rw [hc] at h2
     obtain ⟨_,hlen',hcell⟩:=World.cells?_some h2
     have h5:=hcell 0 (by omega)
     rw [List.getElem?_eq_getElem (by omega)] at h5
     have:=World.cell?_spot h5
     have hz:len=0:=by omega
     simpa [Addr.add,hz] using this
   obtain ⟨b,off,spot⟩:=a
   subst hspot
   rcases Nat.eq_zero_or_pos len with hl0 | hl0
   ·have hz:len=0:=by omega
    subst hz
    refine ⟨[],rfl,⟨by simp,by simp⟩,fun j hj=>?_⟩
    have:j=0:=by omega
    subst this
    have:=Rd.list_mk (w:=w) (G:=Pub.heap w) (sz:=sz) (ds:=[]) (b:=b) (off:=off) (cap:=cap) (by simp) hm (fun i hi=>by simp at hi) (fun i hi=>by simp at hi)
    exact this
   have hne:∃ y:Nat→α,∀ i,i<len→Q (y i)∧∀ j,j<sz→∃ v,w.cell? ((⟨b,off,none⟩:Addr).add (i * sz+j))=some v∧Rd w (Pub.heap w) v ((f (y i)).cell j):=by
    obtain ⟨y0,_⟩:=hel2 0 hl0
    refine ⟨fun i=>if h:i<len then Classical.choose (hel2 i h) else y0,fun i hi=>?_⟩
    simp only [hi,dif_pos]
    exact Classical.choose_spec (hel2 i hi)
   obtain ⟨y,hy⟩:=hne
   refine ⟨(List.range len).map y,rfl,⟨by simp; omega,fun z hz=>?_⟩,fun j hj=>?_⟩
   ·obtain ⟨i,hi,rfl⟩:=List.mem_map.1 hz
    exact (hy i (by simpa using hi)).1
   have:j=0:=by omega
   subst this
   have hlen:(((List.range len).map y).map f).length=len:=by simp
   have hgd:∀ i,i<len→(((List.range len).map y).map f).getD i (.tup [])=f (y i):=fun i hi=>by simp [hi]
   show Rd w (Pub.heap w) (.slice (some ⟨b,off,none⟩) _ cap) (.list sz (((List.range len).map y).map f))
   have:=Rd.list_mk (w:=w) (G:=Pub.heap w) (sz:=sz) (ds:=((List.range len).map y).map f) (b:=b) (off:=off) (cap:=cap) (by omega) hm (fun i hi=>by rw [hgd i (by omega)]; exact he.1 _) (fun i hi j hj=>by
    have hi:i<len:=by omega
    rw [hgd i hi] at hj ⊢
    rw [he.1] at hj
    obtain ⟨v,h6,h7⟩:=(hy i (by omega)).2 j hj
    have h6:w.cell? ⟨b,off+i * sz+j,none⟩=some v:=by
     rw [← h6]; rw [addr_add]; congr 2; omega
    refine ⟨?_,v,h6,h7⟩
    unfold Pub.heap
    unfold World.cell? at h6
    cases hh:w.heap[b]? with
    | none=>simp [hh] at h6
    | some o=>exact (Array.getElem?_eq_some_iff.1 hh).1)
   rw [hlen] at this
   exact this
theorem opF_struct {N fuel:Nat} {t:TypeId} {fs:Array Field} {cs:List Value} {x:DataW H × List MemPlace} (ht:P.underlying t=some (.struct fs)) (h:DataW.trod enc P w 0 (fun _=>true) true fuel t cs=some x) (hN:fuel≤N+1) (hb:Rows.uptoBulk x.1≤1048576):
  cs.length=P.cellsOf t∧∀ (i:Nat) (f:Field),fs[i]? = some f→∀ {α:Type} {sz:Nat} {e:α→PD} {Q:α→Prop},OpF enc P w N f.type sz e Q→P.cellsOf f.type=sz→∃ a,Q a∧∀ j,j<sz→Rd w (Pub.heap w) (cs.getD (f.offset+j) undef) ((e a).cell j):=by
 obtain ⟨xs,n,rfl,rfl,hl,hxl,hx⟩:=DataW.trod_struct ht h
 refine ⟨hl,fun i f hf {α sz e Q} ho hc=>?_⟩
 have h1:=hx i f hf
 have hi:i<xs.length:=by rw [hxl]; exact (Array.getElem?_eq_some_iff.1 hf).1
 rw [List.getElem?_eq_getElem hi] at h1
 simp only [Rows.uptoBulk] at hb
 have hbm:=bulk_mem (List.mem_map.2 ⟨xs[i],List.getElem_mem hi,rfl⟩:xs[i].1∈xs.map (·.1))
 obtain ⟨a,_,hq,h2⟩:=ho.2 n (by omega) _ _ h1 (by omega)
 refine ⟨a,hq,fun j hj=>?_⟩
 have:=h2 j hj
 rw [hc] at this
 have e1:((cs.drop f.offset).take sz).getD j undef=cs.getD (f.offset+j) undef:=by
  simp [List.getD_eq_getElem?_getD,List.getElem?_take,hj,List.getElem?_drop]
 rwa [e1] at this
end
end Go.Proofs.YtjbhhddfaohdnaaGreatDoor
end
section
namespace Go.Proofs.YtjbhhddfaohdnaaGreatDoor
open Go Go.Abs
end Go.Proofs.YtjbhhddfaohdnaaGreatDoor
end
section
namespace Go.Proofs.YtjbhhddfaohdnaaGreatDoor
open Go Go.Abs
end Go.Proofs.YtjbhhddfaohdnaaGreatDoor
end
section
namespace Go.Proofs.YtjbhhddfaohdnaaGreatDoor
open Go Go.Abs
theorem ent168:Ent Tryz.prog 168:=fun _ _=>by kernel_rfl
theorem ent103:Ent Tryz.prog 103:=fun _ _=>by kernel_rfl
theorem ent49:Ent Tryz.prog 49:=fun _ _=>by kernel_rfl
theorem ent16:Ent Tryz.prog 16:=fun _ _=>by kernel_rfl
theorem ints_ok (a b:List Int):FnC Tryz.prog 168 [.pd (ints a),.pd (ints b)] [B (a == b)]:=by
 refine FnC.mk Tryz.func168 rfl ent168 (by simp [Tryz.ntmps168]) fun w G=>?_
 refine R.bound 0 (sz:=1) (ds:=a.map I) rfl fun hl=>?_
 have hl:a.length≤9223372036854775807:=by simpa [maxLen] using hl
 (refine ev_ok 40 _ _ ?_; simp only [go_sem,ints,I])
 refine ⟨fun h=>?_,fun h=>?_⟩
 ·(refine ev_ok 60 _ _ ?_; simp only [go_sem])
  refine R.retC (vc:=True) ?_ trivial
  have h:a.length≠b.length:=by simp at h; omega
  have:(a == b)=false:=by rw [beq_eq_false_iff_ne]; intro e; exact h (by rw [e])
  rw [this]; rfl
 have hab:a.length=b.length:=by simp at h; omega
 (refine ev_ok 60 _ _ ?_; simp only [go_sem])
 refine R.fam (fun k:Nat=>⟨26,[(0,.pd (ints a)),(1,.pd (ints b)),(5,.pd (I k))],[],[],[],[]⟩) (fun k=>k≤a.length∧a.take k=b.take k) (fun k=>a.length - k) 0 ⟨by omega,by simp⟩ (by simp only [go_sem,I,ints]; rfl) ?_
 rintro k ⟨hk,hinv⟩
 (refine ev_ok 60 _ _ ?_; simp only [go_sem,ints,I])
 refine ⟨fun h=>?_,fun h=>?_⟩
 ·have hlt:k<a.length:=by simpa using h
  have hltb:k<b.length:=by omega
  (refine ev_ok 60 _ _ ?_; simp only [go_sem])
  refine R.drawE 9 60 mixed (by kernel_rfl) ?_
  simp only [go_sem,I,getD_map,hlt,hltb]
  refine ⟨by omega,by omega,?_⟩
  (refine ev_ok 60 _ _ ?_; simp only [go_sem])
  refine ⟨fun h2=>?_,fun h2=>?_⟩
  ·(refine ev_ok 60 _ _ ?_; simp only [go_sem])
   refine R.retC (vc:=True) ?_ trivial
   have:(a == b)=false:=by
    rw [beq_eq_false_iff_ne]; rintro rfl; simp at h2
   rw [this]; rfl
  ·(refine ev_ok 60 _ _ ?_; simp only [go_sem,wrapN (k:=k) (by omega)])
   refine R.famEnd (k+1) ⟨by omega,?_⟩ (by show _<_; omega) (by simp only [go_sem,ints,I])
   have h2:a[k]=b[k]:=by simpa using h2
   rw [List.take_succ_eq_append_getElem hlt,List.take_succ_eq_append_getElem hltb,hinv,h2]
 ·have hge:¬ k<a.length:=by simpa using h
  (refine ev_ok 60 _ _ ?_; simp only [go_sem])
  refine R.retC (vc:=True) ?_ trivial
  have:(a == b)=true:=by
   rw [List.take_of_length_le (by omega),List.take_of_length_le (by omega)] at hinv
   simp [hinv]
  rw [this]; rfl
abbrev lists (l:List (List Int)):PD:=.list 1 (l.map ints)
theorem sets_ok (a b:List (List Int)):FnC Tryz.prog 103 [.pd (lists a),.pd (lists b)] [B (a == b)]:=by
 refine FnC.mk Tryz.func103 rfl ent103 (by simp [Tryz.ntmps103]) fun w G=>?_
 refine R.bound 0 (sz:=1) (ds:=a.map ints) rfl fun hl=>?_
 have hl:a.length≤9223372036854775807:=by simpa [maxLen] using hl
 (refine ev_ok 40 _ _ ?_; simp only [go_sem,lists,I])
 refine ⟨fun h=>?_,fun h=>?_⟩
 ·(refine ev_ok 60 _ _ ?_; simp only [go_sem])
  refine R.retC (vc:=True) ?_ trivial
  have h:a.length≠b.length:=by simp at h; omega
  have:(a == b)=false:=by rw [beq_eq_false_iff_ne]; intro e; exact h (by rw [e])
  rw [this]; rfl
 have hab:a.length=b.length:=by simp at h; omega
 (refine ev_ok 60 _ _ ?_; simp only [go_sem])
 refine R.fam (fun k:Nat=>⟨27,[(0,.pd (lists a)),(1,.pd (lists b)),(5,.pd (I k))],[],[],[],[]⟩) (fun k=>k≤a.length∧a.take k=b.take k) (fun k=>a.length - k) 0 ⟨by omega,by simp⟩ (by simp only [go_sem,I,lists]; rfl) ?_
 rintro k ⟨hk,hinv⟩
 (refine ev_ok 60 _ _ ?_; simp only [go_sem,lists,I])
 refine ⟨fun h=>?_,fun h=>?_⟩
 ·have hlt:k<a.length:=by simpa using h
  have hltb:k<b.length:=by omega
  (refine ev_ok 60 _ _ ?_; simp only [go_sem])
  refine R.drawE 10 60 mixed (by kernel_rfl) ?_
  simp only [go_sem,I,getD_map,hlt,hltb,ints]
  refine ⟨by omega,by omega,?_⟩
  refine RY.callC (ints_ok a[k] b[k]) rfl rfl (.cons (.pd _) (.cons (.pd _) .nil)) (by simp) (by simp only [go_sem]) ?_
  (refine evY_ok 60 _ _ ?_; simp only [go_sem,B])
  (refine ev_ok 60 _ _ ?_; simp only [go_sem])
  refine ⟨fun h2=>?_,fun h2=>?_⟩
  ·(refine ev_ok 60 _ _ ?_; simp only [go_sem])
   refine R.retC (vc:=True) ?_ trivial
   have:(a == b)=false:=by
    rw [beq_eq_false_iff_ne]; rintro rfl; simp at h2
   rw [this]; rfl
  ·(refine ev_ok 60 _ _ ?_; simp only [go_sem,wrapN (k:=k) (by omega)])
   refine R.famEnd (k+1) ⟨by omega,?_⟩ (by show _<_; omega) (by simp only [go_sem,lists,I])
   have h2:a[k]=b[k]:=by simpa using h2
   rw [List.take_succ_eq_append_getElem hlt,List.take_succ_eq_append_getElem hltb,hinv,h2]
 ·have hge:¬ k<a.length:=by simpa using h
  (refine ev_ok 60 _ _ ?_; simp only [go_sem])
  refine R.retC (vc:=True) ?_ trivial
  have:(a == b)=true:=by
   rw [List.take_of_length_le (by omega),List.take_of_length_le (by omega)] at hinv
   simp [hinv]
  rw [this]; rfl
def sameW (a b:W):Bool:=decide (a=b)
theorem same_ok (a b:W):FnC Tryz.prog 49 [.pd (way a),.pd (way b)] [B (sameW a b)]:=by
 refine FnC.mk Tryz.func49 rfl ent49 (by simp [Tryz.ntmps49]) fun w G=>?_
 (refine ev_ok 60 _ _ ?_; simp only [go_sem,way,w_ints])
 have hs:=sets_ok [a.pos,a.neg] [b.pos,b.neg]
 simp only [lists,List.map_cons,List.map_nil] at hs
 refine R.callC hs rfl rfl (.cons (.pd _) (.cons (.pd _) .nil)) (by simp) (by simp only [go_sem]) ?_
 (refine ev_ok 60 _ _ ?_; simp only [go_sem,B])
 refine R.retC (vc:=True) ?_ trivial
 have:([a.pos,a.neg] == [b.pos,b.neg])=sameW a b:=by
  obtain ⟨p,q⟩:=a; obtain ⟨p',q'⟩:=b
  simp only [sameW,W.mk.injEq]
  apply Bool.eq_iff_iff.2; simp
 rw [this]; rfl
theorem sameWays_ok (a b:List W):FnC Tryz.prog 16 [.pd (ways a),.pd (ways b)] [B (decide (a=b))]:=by
 refine FnC.mk Tryz.func16 rfl ent16 (by simp [Tryz.ntmps16]) fun w G=>?_
 refine R.bound 0 (sz:=2) (ds:=a.map way) rfl fun hl=>?_
 have hl:a.length≤9223372036854775807:=by simpa [maxLen] using hl
 (refine ev_ok 40 _ _ ?_; simp only [go_sem,ways,I])
 refine ⟨fun h=>?_,fun h=>?_⟩
 ·(refine ev_ok 60 _ _ ?_; simp only [go_sem])
  refine R.retC (vc:=True) ?_ trivial
  have h:a.length≠b.length:=by simp at h; omega
  have:decide (a=b)=false:=by rw [decide_eq_false_iff_not]; intro e; exact h (by rw [e])
  rw [this]; rfl
 have hab:a.length=b.length:=by simp at h; omega
 (refine ev_ok 60 _ _ ?_; simp only [go_sem])
 refine R.fam (fun k:Nat=>⟨27,[(0,.pd (ways a)),(1,.pd (ways b)),(5,.pd (I k))],[],[],[],[]⟩) (fun k=>k≤a.length∧a.take k=b.take k) (fun k=>a.length - k) 0 ⟨by omega,by simp⟩ (by simp only [go_sem,I,ways]; rfl) ?_
 rintro k ⟨hk,hinv⟩
 (refine ev_ok 60 _ _ ?_; simp only [go_sem,ways,I])
 refine ⟨fun h=>?_,fun h=>?_⟩
 ·have hlt:k<a.length:=by simpa using h
  have hltb:k<b.length:=by omega
  (refine ev_ok 60 _ _ ?_; simp only [go_sem])
  refine R.drawE 10 60 mixed (by kernel_rfl) ?_
  simp only [go_sem,I,getD_map,hlt,hltb,way]
  refine ⟨by omega,by omega,?_⟩
  refine RY.callC (same_ok a[k] b[k]) rfl rfl (.cons (.pd _) (.cons (.pd _) .nil)) (by simp) (by simp only [go_sem]) ?_
  (refine evY_ok 60 _ _ ?_; simp only [go_sem,B])
  (refine ev_ok 60 _ _ ?_; simp only [go_sem])
  refine ⟨fun h2=>?_,fun h2=>?_⟩
  ·(refine ev_ok 60 _ _ ?_; simp only [go_sem])
   refine R.retC (vc:=True) ?_ trivial
   have:decide (a=b)=false:=by
    rw [decide_eq_false_iff_not]; rintro rfl; simp [sameW] at h2
   rw [this]; rfl
  ·(refine ev_ok 60 _ _ ?_; simp only [go_sem,wrapN (k:=k) (by omega)])
   refine R.famEnd (k+1) ⟨by omega,?_⟩ (by show _<_; omega) (by simp only [go_sem,ways,I])
   have h2:a[k]=b[k]:=by simpa [sameW] using h2
   rw [List.take_succ_eq_append_getElem hlt,List.take_succ_eq_append_getElem hltb,hinv,h2]
 ·have hge:¬ k<a.length:=by simpa using h
  (refine ev_ok 60 _ _ ?_; simp only [go_sem])
  refine R.retC (vc:=True) ?_ trivial
  have:decide (a=b)=true:=by
   rw [List.take_of_length_le (by omega),List.take_of_length_le (by omega)] at hinv
   simp [hinv]
  rw [this]; rfl
end Go.Proofs.YtjbhhddfaohdnaaGreatDoor
end
section
namespace Go.Proofs.YtjbhhddfaohdnaaGreatDoor
open Go Go.Abs
theorem ent107:Ent Tryz.prog 107:=fun _ _=>by kernel_rfl
theorem ent51:Ent Tryz.prog 51:=fun _ _=>by kernel_rfl
def idxP {α:Type} (p:α→Bool) (l:List α):Int:=match l.findIdx? p with | some i=>i | none=>-1
theorem idxP_some {α:Type} {p:α→Bool} {l:List α} {k:Nat} (h:k<l.length) (h1:(l.take k).any p=false) (h2:p l[k]=true):idxP p l=k:=by
 have:l.findIdx? p=some k:=by
  rw [List.findIdx?_eq_some_iff_getElem]
  refine ⟨h,h2,fun j hj=>?_⟩
  rw [List.any_eq_false] at h1
  have:=h1 l[j] (List.mem_take_iff_getElem.2 ⟨j,by omega,rfl⟩)
  simpa using this
 simp [idxP,this]
theorem idxP_none {α:Type} {p:α→Bool} {l:List α} (h:l.any p=false):idxP p l = -1:=by
 have:l.findIdx? p=none:=by
  rw [List.findIdx?_eq_none_iff]
  rw [List.any_eq_false] at h
  intro x hx; simpa using h x hx
 simp [idxP,this]
theorem idxP_ge {α:Type} {p:α→Bool} {l:List α}:decide (idxP p l≥0)=l.any p:=by
 unfold idxP
 cases h:l.findIdx? p with
 | none=>
  rw [List.findIdx?_eq_none_iff] at h
  have:l.any p=false:=by rw [List.any_eq_false]; intro x hx; simpa using h x hx
  rw [this]; decide
 | some i=>
  rw [List.findIdx?_eq_some_iff_getElem] at h
  obtain ⟨h1,h2,_⟩:=h
  have:l.any p=true:=List.any_eq_true.2 ⟨l[i],List.getElem_mem h1,h2⟩
  rw [this]; simp
def decides {α:Type} (enc:α→PD) (p:α→Bool) (l:List α) (es:List PD) (r:PD):Prop:=∃ x∈l,es=[enc x]∧r=B (p x)
theorem indexFunc_ints_ok (l:List Int) (p:Int→Bool):FnC Tryz.prog 107 [.pd (ints l),.fn (decides I p l)] [I (idxP p l)]:=by
 refine FnC.mk Tryz.func107 rfl ent107 (by simp [Tryz.ntmps107]) fun w G=>?_
 refine R.bound 0 (sz:=1) (ds:=l.map I) rfl fun hl=>?_
 have hl:l.length≤9223372036854775807:=by simpa [maxLen] using hl
 (refine ev_ok 40 _ _ ?_; simp only [go_sem,ints])
 refine R.fam (fun k:Nat=>⟨19,[(0,.pd (ints l)),(1,.fn (decides I p l)),(7,.pd (I l.length)),(8,.pd (I k))],[],[],[],[]⟩) (fun k=>k≤l.length∧(l.take k).any p=false) (fun k=>l.length - k) 0 ⟨by omega,by simp⟩ (by simp only [go_sem,I,ints]; rfl) ?_
 rintro k ⟨hk,hinv⟩
 (refine ev_ok 60 _ _ ?_; simp only [go_sem,I])
 refine ⟨fun h=>?_,fun h=>?_⟩
 ·have hlt:k<l.length:=by simpa using h
  (refine ev_ok 60 _ _ ?_; simp only [go_sem,ints,I,getD_map,hlt])
  refine ⟨by omega,?_⟩
  refine R.y rfl (dstP_ok (by simp only [go_sem])) (.callFn 11 _ _ _ _ (B (p l[k])) rfl rfl rfl ⟨l[k],List.getElem_mem hlt,rfl,rfl⟩) ?_
  (refine ev_ok 60 _ _ ?_; simp only [go_sem,B])
  refine ⟨fun h2=>?_,fun h2=>?_⟩
  ·(refine ev_ok 60 _ _ ?_; simp only [go_sem])
   refine R.retC (vc:=True) ?_ trivial
   rw [idxP_some hlt hinv h2]; rfl
  ·(refine ev_ok 60 _ _ ?_; simp only [go_sem,wrapN (k:=k) (by omega)])
   refine R.famEnd (k+1) ⟨by omega,?_⟩ (by show _<_; omega) (by simp only [go_sem,ints,I])
   rw [List.take_succ_eq_append_getElem hlt,List.any_append,hinv]; simpa using h2
 ·have hge:¬ k<l.length:=by simpa using h
  (refine ev_ok 60 _ _ ?_; simp only [go_sem])
  refine R.retC (vc:=True) ?_ trivial
  rw [List.take_of_length_le (by omega)] at hinv
  rw [idxP_none hinv]; rfl
theorem containsFunc_ints_ok (l:List Int) (p:Int→Bool):FnC Tryz.prog 51 [.pd (ints l),.fn (decides I p l)] [B (l.any p)]:=by
 refine FnC.mk Tryz.func51 rfl ent51 (by simp [Tryz.ntmps51]) fun w G=>?_
 (refine ev_ok 40 _ _ ?_; simp only [go_sem])
 refine R.callC (indexFunc_ints_ok l p) rfl rfl (.cons (.pd _) (.cons (.fn _) .nil)) (by simp) (by simp only [go_sem]) ?_
 (refine ev_ok 40 _ _ ?_; simp only [go_sem,I])
 refine R.retC (vc:=True) ?_ trivial
 rw [← idxP_ge]; rfl
theorem w_way (x:W):(way x).width=2:=rfl
theorem t_way (x:W):(way x).isTup=true:=rfl
theorem ent113:Ent Tryz.prog 113:=fun _ _=>by kernel_rfl
theorem ent60:Ent Tryz.prog 60:=fun _ _=>by kernel_rfl
theorem indexFunc_ways_ok (l:List W) (p:W→Bool):FnC Tryz.prog 113 [.pd (.list 2 (l.map way)),.fn (decides way p l)] [I (idxP p l)]:=by
 refine FnC.mk Tryz.func113 rfl ent113 (by simp [Tryz.ntmps113]) fun w G=>?_
 refine R.bound 0 (sz:=2) (ds:=l.map way) rfl fun hl=>?_
 have hl:l.length≤9223372036854775807:=by simpa [maxLen] using hl
 (refine ev_ok 40 _ _ ?_; simp only [go_sem])
 refine R.fam (fun k:Nat=>⟨19,[(0,.pd (.list 2 (l.map way))),(1,.fn (decides way p l)),(7,.pd (I l.length)),(8,.pd (I k))],[],[],[],[]⟩) (fun k=>k≤l.length∧(l.take k).any p=false) (fun k=>l.length - k) 0 ⟨by omega,by simp⟩ (by simp only [go_sem,I]; rfl) ?_
 rintro k ⟨hk,hinv⟩
 (refine ev_ok 60 _ _ ?_; simp only [go_sem,I])
 refine ⟨fun h=>?_,fun h=>?_⟩
 ·have hlt:k<l.length:=by simpa using h
  (refine ev_ok 60 _ _ ?_; simp only [go_sem,I,getD_map,hlt,w_way,t_way])
  refine ⟨by omega,?_⟩
  refine R.y rfl (dstP_ok (by simp only [go_sem])) (.callFn 11 _ _ _ _ (B (p l[k])) rfl rfl rfl ⟨l[k],List.getElem_mem hlt,rfl,rfl⟩) ?_
  (refine ev_ok 60 _ _ ?_; simp only [go_sem,B])
  refine ⟨fun h2=>?_,fun h2=>?_⟩
  ·(refine ev_ok 60 _ _ ?_; simp only [go_sem])
   refine R.retC (vc:=True) ?_ trivial
   rw [idxP_some hlt hinv h2]; rfl
  ·(refine ev_ok 60 _ _ ?_; simp only [go_sem,wrapN (k:=k) (by omega)])
   refine R.famEnd (k+1) ⟨by omega,?_⟩ (by show _<_; omega) (by simp only [go_sem,I])
   rw [List.take_succ_eq_append_getElem hlt,List.any_append,hinv]; simpa using h2
 ·have hge:¬ k<l.length:=by simpa using h
  (refine ev_ok 60 _ _ ?_; simp only [go_sem])
  refine R.retC (vc:=True) ?_ trivial
  rw [List.take_of_length_le (by omega)] at hinv
  rw [idxP_none hinv]; rfl
theorem containsFunc_ways_ok (l:List W) (p:W→Bool):FnC Tryz.prog 60 [.pd (.list 2 (l.map way)),.fn (decides way p l)] [B (l.any p)]:=by
 refine FnC.mk Tryz.func60 rfl ent60 (by simp [Tryz.ntmps60]) fun w G=>?_
 (refine ev_ok 40 _ _ ?_; simp only [go_sem])
 refine R.callC (indexFunc_ways_ok l p) rfl rfl (.cons (.pd _) (.cons (.fn _) .nil)) (by simp) (by simp only [go_sem]) ?_
 (refine ev_ok 40 _ _ ?_; simp only [go_sem,I])
 refine R.retC (vc:=True) ?_ trivial
 rw [← idxP_ge]; rfl
end Go.Proofs.YtjbhhddfaohdnaaGreatDoor
end
section
namespace Go.Proofs.YtjbhhddfaohdnaaGreatDoor
open Go Go.Abs
theorem ent57:Ent Tryz.prog 57:=fun _ _=>by kernel_rfl
theorem orI_cons (x:Int) (l:List Int):orI (x::l)=if (x != 0)=true then x else orI l:=by
 unfold orI; rw [List.find?_cons]; cases h:(x != 0) <;> simp
theorem or_ok (l:List Int):FnC Tryz.prog 57 [.pd (ints l)] [I (orI l)]:=by
 refine FnC.mk Tryz.func57 rfl ent57 (by simp [Tryz.ntmps57]) fun w G=>?_
 refine R.bound 0 (sz:=1) (ds:=l.map I) rfl fun hl=>?_
 have hl:l.length≤9223372036854775807:=by simpa [maxLen] using hl
 (refine ev_ok 40 _ _ ?_; simp only [go_sem,ints])
 refine R.fam (fun k:Nat=>⟨18,[(3,.pd (I 0)),(6,.pd (ints l)),(7,.pd (I l.length)),(8,.pd (I k))],[],[],[],[]⟩) (fun k=>k≤l.length∧orI l=orI (l.drop k)) (fun k=>l.length - k) 0 ⟨by omega,by simp⟩ (by simp only [go_sem,I,ints]; rfl) ?_
 rintro k ⟨hk,hinv⟩
 (refine ev_ok 60 _ _ ?_; simp only [go_sem,I])
 refine ⟨fun h=>?_,fun h=>?_⟩
 ·have hlt:k<l.length:=by simpa using h
  rw [drop_cons hlt,orI_cons] at hinv
  (refine ev_ok 60 _ _ ?_; simp only [go_sem,ints,I,getD_map,hlt])
  refine ⟨by omega,fun h2=>?_,fun h2=>?_⟩
  ·(refine ev_ok 60 _ _ ?_; simp only [go_sem])
   refine R.retC (vc:=True) ?_ trivial
   rw [if_pos h2] at hinv
   rw [hinv]; rfl
  ·(refine ev_ok 60 _ _ ?_; simp only [go_sem,wrapN (k:=k) (by omega)])
   refine R.famEnd (k+1) ⟨by omega,?_⟩ (by show _<_; omega) (by simp only [go_sem,ints,I])
   rw [if_neg (by simp [h2])] at hinv; exact hinv
 ·have hge:¬ k<l.length:=by simpa using h
  (refine ev_ok 60 _ _ ?_; simp only [go_sem])
  refine R.retC (vc:=True) ?_ trivial
  rw [hinv,List.drop_eq_nil_of_le (by omega)]; rfl
theorem ent242:Ent Tryz.prog 242:=fun _ _=>by kernel_rfl
theorem ent173:Ent Tryz.prog 173:=fun _ _=>by kernel_rfl
theorem ent172:Ent Tryz.prog 172:=fun _ _=>by kernel_rfl
theorem nan_ok (n:Int):FnC Tryz.prog 242 [.pd (I n)] [B false]:=by
 refine FnC.mk Tryz.func242 rfl ent242 (by simp [Tryz.ntmps242]) fun w G=>?_
 (refine ev_ok 40 _ _ ?_; simp only [go_sem,I,bne_self_eq_false])
 exact R.retC (vc:=True) rfl trivial
theorem nan2_ok (n:Int):FnC Tryz.prog 173 [.pd (I n)] [B false]:=by
 refine FnC.mk Tryz.func173 rfl ent173 (by simp [Tryz.ntmps173]) fun w G=>?_
 (refine ev_ok 40 _ _ ?_; simp only [go_sem,I,bne_self_eq_false])
 exact R.retC (vc:=True) rfl trivial
theorem less_ok (a b:Int):FnC Tryz.prog 172 [.pd (I a),.pd (I b)] [B (decide (a<b))]:=by
 refine FnC.mk Tryz.func172 rfl ent172 (by simp [Tryz.ntmps172]) fun w G=>?_
 (refine ev_ok 40 _ _ ?_; simp only [go_sem])
 refine R.callC (nan_ok a) rfl rfl (.cons (.pd _) .nil) (by simp) (by simp only [go_sem]) ?_
 (refine ev_ok 40 _ _ ?_; simp only [go_sem,B])
 refine R.callG (f:=242) (args:=[.pd (I b)]) (rs:=[B false]) (b:=false) rfl rfl rfl rfl (fun h=>by cases h) (by simp) (by simp only [go_sem]) ?_
 (refine ev_ok 40 _ _ ?_; simp only [go_sem,B,I])
 exact R.retC (vc:=True) rfl trivial
theorem ent184:Ent Tryz.prog 184:=fun _ _=>by kernel_rfl
theorem compare_ok (a b:Int):FnC Tryz.prog 184 [.pd (I a),.pd (I b)] [I (cmpI a b)]:=by
 refine FnC.mk Tryz.func184 rfl ent184 (by simp [Tryz.ntmps184]) fun w G=>?_
 (refine ev_ok 40 _ _ ?_; simp only [go_sem])
 refine R.callC (nan_ok a) rfl rfl (.cons (.pd _) .nil) (by simp) (by simp only [go_sem]) ?_
 (refine ev_ok 40 _ _ ?_; simp only [go_sem])
 refine R.callC (nan_ok b) rfl rfl (.cons (.pd _) .nil) (by simp) (by simp only [go_sem]) ?_
 (refine ev_ok 40 _ _ ?_; simp only [go_sem,B])
 (refine ev_ok 40 _ _ ?_; simp only [go_sem,B])
 (refine ev_ok 40 _ _ ?_; simp only [go_sem,I])
 refine ⟨fun h=>?_,fun h=>?_⟩
 ·(refine ev_ok 40 _ _ ?_; simp only [go_sem])
  refine R.retC (vc:=True) ?_ trivial
  rw [cmpI,if_pos (by simpa using h)]; rfl
 (refine ev_ok 40 _ _ ?_; simp only [go_sem,I])
 refine ⟨fun h2=>?_,fun h2=>?_⟩
 ·(refine ev_ok 40 _ _ ?_; simp only [go_sem])
  refine R.retC (vc:=True) ?_ trivial
  rw [cmpI,if_neg (by simpa using h),if_pos (by simpa using h2)]; rfl
 ·(refine ev_ok 40 _ _ ?_; simp only [go_sem])
  refine R.retC (vc:=True) ?_ trivial
  rw [cmpI,if_neg (by simpa using h),if_neg (by simpa using h2)]; rfl
end Go.Proofs.YtjbhhddfaohdnaaGreatDoor
end
section
namespace Go.Proofs.YtjbhhddfaohdnaaGreatDoor
open Go Go.Abs
theorem ent112:Ent Tryz.prog 112:=fun _ _=>by kernel_rfl
theorem cmpL_cons (x y:Int) (l m:List Int):cmpL (x::l) (y::m)=if cmpI x y=0 then cmpL l m else cmpI x y:=by
 rw [cmpL]; by_cases h:cmpI x y=0 <;> simp [h]
theorem cmpL_nil (m:List Int):cmpL [] m=if 0<m.length then -1 else 0:=by cases m <;> simp [cmpL]
theorem compareL_ok (a b:List Int):FnC Tryz.prog 112 [.pd (ints a),.pd (ints b)] [I (cmpL a b)]:=by
 refine FnC.mk Tryz.func112 rfl ent112 (by simp [Tryz.ntmps112]) fun w G=>?_
 refine R.bound 0 (sz:=1) (ds:=a.map I) rfl fun hl=>?_
 have hl:a.length≤9223372036854775807:=by simpa [maxLen] using hl
 (refine ev_ok 40 _ _ ?_; simp only [go_sem,ints])
 refine R.fam (fun k:Nat=>⟨36,[(0,.pd (ints a)),(1,.pd (ints b)),(9,.pd (ints a)),(10,.pd (I a.length)),(11,.pd (I k))],[],[],[],[]⟩) (fun k=>k≤a.length∧k≤b.length∧cmpL a b=cmpL (a.drop k) (b.drop k)) (fun k=>a.length - k) 0 ⟨by omega,by omega,by simp⟩ (by simp only [go_sem,I,ints]; rfl) ?_
 rintro k ⟨hk,hkb,hinv⟩
 (refine ev_ok 60 _ _ ?_; simp only [go_sem,I])
 refine ⟨fun h=>?_,fun h=>?_⟩
 ·have hlt:k<a.length:=by simpa using h
  rw [drop_cons hlt] at hinv
  (refine ev_ok 60 _ _ ?_; simp only [go_sem,ints,I,getD_map,hlt])
  refine ⟨by omega,fun h2=>?_,fun h2=>?_⟩
  ·(refine ev_ok 60 _ _ ?_; simp only [go_sem])
   refine R.retC (vc:=True) ?_ trivial
   have h2:b.length≤k:=by simpa using h2
   rw [hinv,List.drop_eq_nil_of_le h2]; rfl
  ·have h2:k<b.length:=by simpa using h2
   rw [drop_cons h2,cmpL_cons] at hinv
   (refine ev_ok 60 _ _ ?_; simp only [go_sem,I,getD_map,h2])
   refine ⟨by omega,?_⟩
   refine R.callC (compare_ok a[k] b[k]) rfl rfl (.cons (.pd _) (.cons (.pd _) .nil)) (by simp) (by simp only [go_sem]) ?_
   (refine ev_ok 60 _ _ ?_; simp only [go_sem,I])
   refine ⟨fun h3=>?_,fun h3=>?_⟩
   ·(refine ev_ok 60 _ _ ?_; simp only [go_sem])
    refine R.retC (vc:=True) ?_ trivial
    rw [if_neg (by simpa using h3)] at hinv
    rw [hinv]; rfl
   ·(refine ev_ok 60 _ _ ?_; simp only [go_sem,wrapN (k:=k) (by omega)])
    refine R.famEnd (k+1) ⟨by omega,by omega,?_⟩ (by show _<_; omega) (by simp only [go_sem,ints,I])
    rw [if_pos (by simpa using h3)] at hinv; exact hinv
 ·have hge:¬ k<a.length:=by simpa using h
  have hke:k=a.length:=by omega
  rw [List.drop_eq_nil_of_le (by omega:a.length≤k),cmpL_nil,List.length_drop] at hinv
  (refine ev_ok 60 _ _ ?_; simp only [go_sem,ints,I])
  refine ⟨fun h2=>?_,fun h2=>?_⟩
  ·(refine ev_ok 60 _ _ ?_; simp only [go_sem])
   refine R.retC (vc:=True) ?_ trivial
   have h2:a.length<b.length:=by simpa using h2
   rw [hinv,if_pos (by omega)]; rfl
  ·(refine ev_ok 60 _ _ ?_; simp only [go_sem])
   refine R.retC (vc:=True) ?_ trivial
   have h2:¬ a.length<b.length:=by simpa using h2
   rw [hinv,if_neg (by omega)]; rfl
theorem ent58:Ent Tryz.prog 58:=fun _ _=>by kernel_rfl
theorem compareW_ok (a b:W):FnC Tryz.prog 58 [.pd (way a),.pd (way b)] [I (cmpW a b)]:=by
 refine FnC.mk Tryz.func58 rfl ent58 (by simp [Tryz.ntmps58]) fun w G=>?_
 (refine ev_ok 60 _ _ ?_; simp only [go_sem,way])
 refine R.drawE 13 60 mixed (by kernel_rfl) ?_
 simp only [go_sem]
 refine RY.callC (compareL_ok a.pos b.pos) rfl rfl (.cons (.pd _) (.cons (.pd _) .nil)) (by simp) (by simp only [go_sem]) ?_
 (refine evY_ok 60 _ _ ?_; simp only [go_sem])
 refine RY.callC (compareL_ok a.neg b.neg) rfl rfl (.cons (.pd _) (.cons (.pd _) .nil)) (by simp) (by simp only [go_sem]) ?_
 (refine evY_ok 60 _ _ ?_; simp only [go_sem])
 have ho:=or_ok [cmpL a.pos b.pos,cmpL a.neg b.neg]
 simp only [ints,List.map_cons,List.map_nil] at ho
 refine RY.callC ho rfl rfl (.cons (.pd _) .nil) (by simp) (by simp only [go_sem]) ?_
 (refine evY_ok 60 _ _ ?_; simp only [go_sem])
 (refine ev_ok 60 _ _ ?_; simp only [go_sem])
 exact R.retC (vc:=True) rfl trivial
end Go.Proofs.YtjbhhddfaohdnaaGreatDoor
end
section
namespace Go.Proofs.YtjbhhddfaohdnaaGreatDoor
open Go Go.Abs
theorem ent54:Ent Tryz.prog 54:=fun _ _=>by kernel_rfl
theorem ent56:Ent Tryz.prog 56:=fun _ _=>by kernel_rfl
theorem size_ok (a:W) (h:a.pos.length+a.neg.length<1000000000000):FnC Tryz.prog 54 [.pd (way a)] [I (sizeW a)]:=by
 refine FnC.mk Tryz.func54 rfl ent54 (by simp [Tryz.ntmps54]) fun w G=>?_
 (refine ev_ok 60 _ _ ?_; simp only [go_sem,way,ints,wrap64 (n:=(a.pos.length:Int)+(a.neg.length:Int)) (by omega) (by omega)])
 refine R.retC (vc:=True) ?_ trivial
 have:sizeW a=(a.pos.length:Int)+(a.neg.length:Int):=by simp [sizeW]
 rw [this]; rfl
abbrev SZF:PD:=.raw (.func (.func 54) #[] #[])
theorem order_ok (a b:W) (ha:a.pos.length+a.neg.length<1000000000000) (hb:b.pos.length+b.neg.length<1000000000000):FnC Tryz.prog 56 [.pd (way a),.pd (way b),.ref SZF 0] [I (ordW a b)]:=by
 refine FnC.mk Tryz.func56 rfl ent56 (by simp [Tryz.ntmps56]) fun w G=>?_
 have hwr:IntKind.i64.wrap (sizeW a - sizeW b)=sizeW a - sizeW b:=wrap64 (by unfold sizeW; omega) (by unfold sizeW; omega)
 (refine ev_ok 60 _ _ ?_; simp only [go_sem,way,SZF])
 refine R.drawE 13 60 mixed (by kernel_rfl) ?_
 simp only [go_sem]
 refine ⟨_,.inl ⟨rfl,.callRaw 6 54 _ _ [.pd (way a)] [I (sizeW a)] false rfl rfl (.cons (.pd _) .nil) (size_ok a ha) (by simp)⟩,dstP_ok (by simp only [go_sem]),?_⟩
 (refine evY_ok 60 _ _ ?_; simp only [go_sem])
 refine ⟨_,.inl ⟨rfl,.callRaw 9 54 _ _ [.pd (way b)] [I (sizeW b)] false rfl rfl (.cons (.pd _) .nil) (size_ok b hb) (by simp)⟩,dstP_ok (by simp only [go_sem]),?_⟩
 (refine evY_ok 60 _ _ ?_; simp only [go_sem,I,hwr])
 refine RY.callC (compareW_ok a b) rfl rfl (.cons (.pd _) (.cons (.pd _) .nil)) (by simp) (by simp only [go_sem]) ?_
 (refine evY_ok 60 _ _ ?_; simp only [go_sem,I])
 have ho:=or_ok [sizeW a - sizeW b,cmpW a b]
 simp only [ints,List.map_cons,List.map_nil] at ho
 refine RY.callC ho rfl rfl (.cons (.pd _) .nil) (by simp) (by simp only [go_sem]) ?_
 (refine evY_ok 60 _ _ ?_; simp only [go_sem])
 (refine ev_ok 60 _ _ ?_; simp only [go_sem])
 exact R.retC (vc:=True) rfl trivial
end Go.Proofs.YtjbhhddfaohdnaaGreatDoor
end
section
namespace Go.Proofs.YtjbhhddfaohdnaaGreatDoor
open Go Go.Abs
set_option maxRecDepth 10000
theorem ent109:Ent Tryz.prog 109:=fun _ _=>by kernel_rfl
theorem ent108:Ent Tryz.prog 108:=fun _ _=>by kernel_rfl
theorem ent53:Ent Tryz.prog 53:=fun _ _=>by kernel_rfl
theorem ent52:Ent Tryz.prog 52:=fun _ _=>by kernel_rfl
theorem ent59:Ent Tryz.prog 59:=fun _ _=>by kernel_rfl
theorem shr1 {n:Nat} (h:n<9223372036854775808):IntKind.i64.wrap ((IntKind.u64.wrap (n:Int)).fdiv (2 ^ (min (1:Int).toNat IntKind.u64.bits)))=((n / 2:Nat):Int):=by
 have h1:IntKind.u64.wrap (n:Int)=n:=by
  unfold IntKind.wrap
  simp [IntKind.bits,IntKind.signed]
  omega
 rw [h1]
 have h2:(2 ^ (min (1:Int).toNat IntKind.u64.bits):Int)=2:=by decide
 rw [h2,Int.fdiv_eq_ediv_of_nonneg _ (by omega)]
 rw [wrap64 (by omega) (by omega)]; omega
def below (l:List Int) (x:Int):Nat:=l.countP (· < x)
theorem below_eq {l:List Int} {x:Int} {i:Nat} (hs:l.Pairwise (· < ·)) (hi:i≤l.length) (h1:∀ m (h:m<l.length),m<i→l[m]<x) (h2:∀ m (h:m<l.length),i≤m→¬ l[m]<x):below l x=i:=by
 have e:l=l.take i++l.drop i:=(List.take_append_drop i l).symm
 unfold below
 rw [e,List.countP_append,List.countP_eq_length.2,List.countP_eq_zero.2]
 ·simp; omega
 ·intro a ha
  obtain ⟨j,hj,rfl⟩:=List.getElem_of_mem ha
  rw [List.getElem_drop]
  simpa using h2 (i+j) (by simp at hj; omega) (by omega)
 ·intro a ha
  obtain ⟨j,hj,rfl⟩:=List.getElem_of_mem ha
  rw [List.getElem_take]
  simpa using h1 j (by simp at hj; omega) (by simp at hj; omega)
theorem search_ok (l:List Int) (x:Int) (hs:l.Pairwise (· < ·)) (hl:l.length<1000000000000):FnC Tryz.prog 109 [.pd (ints l),.pd (I x)] [I (below l x),B (l.contains x)]:=by
 refine FnC.mk Tryz.func109 rfl ent109 (by simp [Tryz.ntmps109]) fun w G=>?_
 (refine ev8 ?_; simp only [go_sem])
 refine R.famU (fun (ij:Nat × Nat) s=>St.lp [0,1,4,5,6,10,11,12,31,32,33,34,35,36,37,38,39,40,41,42,43,44,45,46,47,48,49,50,51,52,53] [(7,.pd (I ij.1)),(8,.pd (I ij.2))] [] [] [] [] s) (fun (ij:Nat × Nat)=>ij.1≤ij.2∧ij.2≤l.length∧(∀ m (h:m<l.length),m<ij.1→l[m]<x)∧(∀ m (h:m<l.length),ij.2≤m→¬ l[m]<x)) (fun (ij:Nat × Nat)=>ij.2 - ij.1) ((0,l.length)) (⟨by simp,by simp,by intros; omega,by intros; omega⟩) (by (simp only [go_sem]); all_goals (and_intros <;> rfl)) ?_
 rintro ⟨i,j⟩ ⟨hij,hj,hlo,hhi⟩
 simp only at hij hj hlo hhi
 (refine ev8 ?_; simp only [go_sem])
 refine ⟨fun h=>?_,fun h=>?_⟩
 ·have hlt:i<j:=by simpa using h
  have hsum:IntKind.i64.wrap ((i:Int)+(j:Int))=((i+j:Nat):Int):=by rw [wrap64 (by omega) (by omega)]; simp
  have hm:(i+j) / 2<l.length:=by omega
  (refine ev8 ?_; simp only [ev,evL,ev1,evY,ay,ayCall,ayLen,ayIdxAddr,ayLoad,ayField,ayFieldAddr,ayPick,aySlice,ayNil,bound,rawBin,rawUn,eqL,eqV,codeV,ayBin,refs,idx,gath,caps,partsD,seqB,wAll,pdsOf,fillD,stV,evO,evG,gok,SV.strip,SV.unbox,SV.kill,SV.killRow,SV.frz,er,constSV,St.start,St.startM,slotsOf,after,AObj.wrote,List.filter_nil,St.get,St.put,St.set,St.setVar,St.setRow,St.newVar,St.newRow,St.frz,lk,up,St.var,St.row,dstP,exitK,cxP,cxV,cxR,cwP,cwV,cwR,cwM,cmP,cmV,cmR,cmW,cmM,caP,caV,caR,caW,caM,cpP,cpV,cpR,cgP,cgV,cgR,cgW,csP,csV,csR,csW,csM,leR,leM,St.lp,filtL,St.enter,renV,renR,renL,SV.ren,pickL,shiftL,upN,St.leave,lowL,highL,dropV,dropR,dnN,St.leaveOk,goodL,goodC,goodV,goodR,SV.good,updN,resS,St.map,or_self,or_false,false_or,or_true,true_or,decide_true,decide_false,Bool.or_false,Bool.or_true,Bool.false_or,Bool.true_or,Bool.or_self,resD,leL,leV,leS,srcOf,wd_raw,wd_list,wd_tup,wd_clo,wd_mp,ce_raw,ce_list,ce_tup,ce_clo,ce_mp,cs_raw,cs_list,cs_tup,cs_clo,cs_mp,w_ints,w_I,c_ints,c_I,s_ints,s_I,it_tup,it_raw,it_list,retSV,Op.operands,Call.operands,Nat.zero_add,Nat.add_zero,Nat.reduceAdd,Nat.reduceSub,Nat.reduceMul,Nat.reduceEqDiff,Nat.reduceLT,Nat.reduceLeDiff,Nat.reduceBEq,Nat.reduceBNe,reduceCtorEq,if_true,if_false,ite_self,Option.getD_some,Option.getD_none,Option.map_some,Option.map_none,Option.bind_some,Option.isSome_some,Option.isSome_none,true_and,and_true,and_self,true_implies,false_implies,ne_eq,not_true_eq_false,not_false_eq_true,false_and,and_false,List.map_cons,List.map_nil,List.length_cons,List.length_nil,List.length_map,List.take_succ_cons,List.take_zero,List.take_nil,List.drop_succ_cons,List.drop_zero,List.drop_nil,List.nil_append,List.cons_append,List.append_nil,List.all_cons,List.all_nil,List.getD_cons_zero,List.getD_cons_succ,List.getElem?_toArray,List.getElem?_cons_zero,List.getElem?_cons_succ,List.contains_nil,List.contains_cons,Array.isEmpty_empty,List.range_succ_eq_map,List.isEmpty_nil,Value.oneCell',Bool.and_self,Bool.and_true,Bool.true_and,Bool.false_and,Bool.and_false,Bool.not_true,Bool.not_false,beq_self_eq_true,Bool.false_eq_true,Bool.true_eq_false,Int.toNat_natCast,Array.size_empty,List.size_toArray,Function.comp,implies_true,Nat.not_lt_zero,Nat.lt_irrefl,Nat.le_refl,Nat.lt_one_iff,Int.natCast_nonneg,Bool.not_not,List.toList_toArray,beq_true,beq_false,eq_self,Array.empty_append,imp_self,Bool.not_eq_true',Bool.not_eq_false',Tryz.ntmps109,sz3,kn3,ag3,in3,if3,by3,ze3,zd3,sz27,kn27,ag27,sl27,if27,by27,ze27,sz162,kn162,ag162,in162,if162,by162,ze162,hsum,shr1 (n:=i+j) (by omega),getD_map,hm])
  refine ⟨by decide,by omega,?_⟩
  refine R.callC (less_ok l[(i+j) / 2] x) rfl rfl (.cons (.pd _) (.cons (.pd _) (.nil))) (by simp [plain,PD.plain]) (by simp only [go_sem]) ?_
  (refine ev8 ?_; simp only [go_sem])
  refine ⟨fun h2=>?_,fun h2=>?_⟩
  ·have h2:l[(i+j) / 2]<x:=by simpa using h2
   (refine ev8 ?_; simp only [go_sem,wrapN (k:=(i+j) / 2) (by omega)])
   refine R.famEnd ((i+j) / 2+1,j) ⟨by simp only; omega,hj,fun m h hmm=>?_,hhi⟩ (by show _<_; omega) (by (simp only [go_sem]); all_goals (and_intros <;> rfl))
   simp only at hmm
   rcases Nat.lt_or_ge m ((i+j) / 2) with c | c
   ·have:=(List.pairwise_iff_getElem.1 hs) m ((i+j) / 2) h hm c
    omega
   ·have:m=(i+j) / 2:=by omega
    subst this; exact h2
  ·have h2:¬ l[(i+j) / 2]<x:=by simpa using h2
   (refine ev8 ?_; simp only [go_sem])
   refine R.famEnd (i,(i+j) / 2) ⟨by simp only; omega,by simp only; omega,hlo,fun m h hmm=>?_⟩ (by show _<_; omega) (by (simp only [go_sem]); all_goals (and_intros <;> rfl))
   simp only at hmm
   rcases Nat.lt_or_ge ((i+j) / 2) m with c | c
   ·have:=(List.pairwise_iff_getElem.1 hs) ((i+j) / 2) m hm h c
    omega
   ·have:m=(i+j) / 2:=by omega
    subst this; exact h2
 ·have hge:¬ i<j:=by simpa using h
  have hie:i=j:=by omega
  subst hie
  have hb:=below_eq hs hj hlo hhi
  by_cases hc:i<l.length
  ·have hci:((i:Int)<(l.length:Int))=True:=by simpa using hc
   have hcon:l.contains x=(l[i] == x):=by
    apply Bool.eq_iff_iff.2
    rw [List.contains_iff_mem,beq_iff_eq]
    constructor
    ·intro hx
     obtain ⟨m,hm,rfl⟩:=List.getElem_of_mem hx
     rcases Nat.lt_trichotomy m i with c | c | c
     ·have:=hlo m hm c; omega
     ·subst c; rfl
     ·have h1:=(List.pairwise_iff_getElem.1 hs) i m hc hm c
      have:=hhi i hc (Nat.le_refl _); omega
    ·rintro rfl; exact List.getElem_mem hc
   by_cases hx:l[i]=x
   ·have hxb:(l[i] == x)=true:=by simpa using hx
    (refine evL8 ?_; simp only [go_sem,↓reduceIte,hci,getD_map,hc,hxb])
    refine R.retC (vc:=True) ?_ trivial
    rw [hb,hcon,hxb]; rfl
   ·have hxb:(l[i] == x)=false:=by simpa using hx
    (refine evL8 ?_; simp only [go_sem,↓reduceIte,hci,getD_map,hc,hxb])
    refine R.callC (nan2_ok l[i]) rfl rfl (.cons (.pd _) (.nil)) (by simp [plain,PD.plain]) (by simp only [go_sem]) ?_
    (refine evL8 ?_; simp only [go_sem,↓reduceIte,ite_self])
    refine R.retC (vc:=True) ?_ trivial
    rw [hb,hcon,hxb]; rfl
  ·have hci:((i:Int)<(l.length:Int))=False:=by simpa using hc
   have hcon:l.contains x=false:=by
    rw [Bool.eq_false_iff,ne_eq,List.contains_iff_mem]
    intro hx
    obtain ⟨m,hm,rfl⟩:=List.getElem_of_mem hx
    have:=hlo m hm (by omega); omega
   (refine evL8 ?_; simp only [go_sem,↓reduceIte,hci])
   refine R.retC (vc:=True) ?_ trivial
   rw [hb,hcon]; rfl
theorem Co.clo1 {P:Program} {var:Nat→Option (List SV)} {row:Nat→Option Row} {f t:Nat} (d:PD) {F:List PD→PD→Prop} (hv:var t=some (d.cells.map .pd)) (he:Ent P f) (h:∀ es r,F es r→FnC P f (es.map .pd++[.ref d 0]) [r]):Co P var row (.clo f [t]) (.fn F) true:=
 .clo f [t] [d] F (.clo f [t] [d] rfl (fun _=>d.cells.map .pd) (fun i hi=>by
  obtain rfl:i=0:=by simpa using hi
  exact ⟨hv,by simp [PD.length_cells]⟩) (fun i j hi hj=>by
  obtain rfl:i=0:=by simpa using hi
  have hj:j<d.width:=hj
  have e:(d.cells.map SV.pd).getD j .dead = .pd (d.cell j):=by
   rw [← PD.getD_cells d j hj]
   have:j<d.cells.length:=by rw [PD.length_cells]; exact hj
   simp [this]
  show Cv var row ((d.cells.map SV.pd).getD j .dead) (d.cell j)
  rw [e]; exact .pd _)) he h
theorem within1_ok (b:List Int) (x:Int) (hs:b.Pairwise (· < ·)) (hl:b.length<1000000000000):FnC Tryz.prog 108 [.pd (I x),.ref (ints b) 0] [B (!b.contains x)]:=by
 refine FnC.mk Tryz.func108 rfl ent108 (by simp [Tryz.ntmps108]) fun w G=>?_
 (refine ev8 ?_; simp only [go_sem])
 refine R.callC (search_ok b x hs hl) rfl rfl (.cons (.pd _) (.cons (.pd _) (.nil))) (by simp [plain,PD.plain]) (by simp only [go_sem]) ?_
 (refine ev8 ?_; simp only [go_sem])
 refine R.retC (vc:=True) ?_ trivial
 rfl
theorem within_ok (a b:List Int) (hs:b.Pairwise (· < ·)) (hl:b.length<1000000000000):FnC Tryz.prog 53 [.pd (ints a),.pd (ints b)] [B (a.all (b.contains ·))]:=by
 refine FnC.mk Tryz.func53 rfl ent53 (by simp [Tryz.ntmps53]) fun w G=>?_
 (refine ev8 ?_; simp only [go_sem])
 refine R.callC (containsFunc_ints_ok a (fun x=>!b.contains x)) rfl rfl (.cons (.pd _) (.cons (Co.clo1 (ints b) rfl ent108 (by rintro es r ⟨x,_,rfl,rfl⟩; exact within1_ok b x hs hl)) (.nil))) (by simp [plain,PD.plain]) (by simp only [go_sem]) ?_
 (refine ev8 ?_; simp only [go_sem])
 refine R.retC (vc:=True) ?_ trivial
 have:(!a.any fun x=>!b.contains x)=a.all (b.contains ·):=by simp [List.any_eq_not_all_not]
 rw [← this]; rfl
theorem clash_ok (v:W) (x:Int) (hs:v.neg.Pairwise (· < ·)) (hl:v.neg.length<1000000000000):FnC Tryz.prog 52 [.pd (I x),.ref (way v) 0] [B (v.neg.contains x)]:=by
 refine FnC.mk Tryz.func52 rfl ent52 (by simp [Tryz.ntmps52]) fun w G=>?_
 (refine ev8 ?_; simp only [go_sem])
 refine R.callC (within_ok [x] v.neg hs hl) rfl rfl (.cons (.pd _) (.cons (.pd _) (.nil))) (by simp [plain,PD.plain]) (by simp only [go_sem]) ?_
 (refine ev8 ?_; simp only [go_sem])
 refine R.retC (vc:=True) ?_ trivial
 have:[x].all (v.neg.contains ·)=v.neg.contains x:=by simp
 rw [← this]; rfl
theorem part_ok (a b:W) (hs:Norm b) (hl:b.pos.length+b.neg.length<1000000000000):FnC Tryz.prog 59 [.pd (way a),.ref (way b) 0] [B (partW a b)]:=by
 refine FnC.mk Tryz.func59 rfl ent59 (by simp [Tryz.ntmps59]) fun w G=>?_
 (refine ev8 ?_; simp only [go_sem])
 refine R.callC (within_ok a.pos b.pos hs.1 (by omega)) rfl rfl (.cons (.pd _) (.cons (.pd _) (.nil))) (by simp [plain,PD.plain]) (by simp only [go_sem]) ?_
 cases h:a.pos.all (b.pos.contains ·) with
 | true=>
  (refine evL8 ?_; simp only [go_sem,↓reduceIte,ite_self])
  refine R.callC (within_ok a.neg b.neg hs.2 (by omega)) rfl rfl (.cons (.pd _) (.cons (.pd _) (.nil))) (by simp [plain,PD.plain]) (by simp only [go_sem]) ?_
  (refine evL8 ?_; simp only [go_sem,↓reduceIte,ite_self])
  refine R.retC (vc:=True) ?_ trivial
  simp only [partW,h,Bool.true_and]; rfl
 | false=>
  (refine evL8 ?_; simp only [go_sem,↓reduceIte,ite_self])
  refine R.retC (vc:=True) ?_ trivial
  simp only [partW,h,Bool.false_and]; rfl
end Go.Proofs.YtjbhhddfaohdnaaGreatDoor
end
section
namespace Go.Abs
def SV.frzV (t:Nat) (d:PD):SV→SV
 | .vptr t' o=>if t'=t then .ref d o else .vptr t' o
 | .clo f ts=>if ts=[t] then .pd (.clo f [d]) else if ts.contains t then .dead else .clo f ts
 | .gd c v=>.gd c (v.frzV t d)
 | .ifc i v=>.ifc i (v.frzV t d)
 | v=>v
def St.frzV (s:St) (t:Nat) (d:PD):St:=
 { s with slots:=s.slots.map fun p=>(p.1,p.2.frzV t d),vars:=er t (s.vars.map fun p=>(p.1,p.2.map (SV.frzV t d))),gs:=s.gs.map fun p=>(p.1,p.2.frzV t d) }
theorem SV.frzV_box (t:Nat) (d:PD) (v:SV) (cs:List Value) (h:v.frzV t d = .box cs):v = .box cs:=by
 cases v with
 | vptr t' o=>simp only [SV.frzV] at h; split at h <;> cases h
 | clo f ts=>simp only [SV.frzV] at h; split at h; · cases h
             split at h <;> cases h
 | _=>first | exact h | cases h
section
variable {C:Cx} {s:St} {a:Act} {w w':World} {E:Env} {P:Program} {k:List KI}
theorem St.get_frzV (s:St) (t:Nat) (d:PD) (j:Nat):(s.frzV t d).get j=(s.get j).frzV t d:=by
 simp only [St.get,St.frzV,lk_map]; cases lk j s.slots <;> rfl
theorem St.gget_frzV (s:St) (t:Nat) (d:PD) (j:Nat):(s.frzV t d).gget j=(s.gget j).frzV t d:=by
 simp only [St.gget,St.frzV,lk_map]; cases lk j s.gs <;> rfl
theorem Gam.frzV (g:Gam C s a w E) {t:Nat} {d:PD} (hv0:C.vb0 t=none) (hw:C.w0.heap.size≤E.vb t) (hv:s.var t=some (d.cells.map .pd)):∃ E',Gam C (s.frzV t d) a w E':=by
 let G':Pub:=fun b o=>E.G b o∨b=E.vb t
 have hk:Keeps w E.G w G':=.same fun _ _ h=>.inl h
 obtain ⟨cur,e,m,hs,hr⟩:=g.vars t _ hv
 have hat:RdAt w G' (E.vb t) 0 d:=by
  intro j hj
  have hj2:j<(d.cells.map SV.pd).length:=by simpa [PD.length_cells] using hj
  obtain ⟨h1,h2⟩:=hr j hj2
  have e1:(d.cells.map SV.pd).getD j .dead = .pd (d.cell j):=by
   rw [← PD.getD_cells d j hj]
   have:j<d.cells.length:=by rw [PD.length_cells]; exact hj
   simp [this]
  rw [e1] at h2
  refine ⟨.inr rfl,cur.getD j undef,?_,(RdV.one h2 h1).keep hk⟩
  have hjc:j<cur.size:=by rw [hs]; exact hj2
  simp only [World.cell?,m.2.2,Nat.zero_add]
  simp [Array.getD,hjc]
 have hvar:∀ j c,(s.frzV t d).var j=some c→j≠t∧∃ c0,s.var j=some c0∧c=c0.map (SV.frzV t d):=by
  intro j c h
  simp only [St.var,St.frzV,lk_er,lk_map] at h
  split at h
  ·cases h
  ·rename_i hne
   cases h0:lk j s.vars with
   | none=>simp [h0] at h
   | some c0=>simp [h0] at h; exact ⟨hne,c0,h0,h.symm⟩
 have hbox:∀ j c,(s.frzV t d).get j = .box c→s.get j = .box c:=by
  intro j c h; rw [St.get_frzV] at h; exact SV.frzV_box t d _ _ h
 have mn:∀ b cur e,b≠E.vb t→Mine C E.G w b cur e→Mine C G' w b cur e:=fun b cur e hne m=>
  ⟨m.1,fun o h=>by rcases h with h | h; exact m.2.1 o h; exact hne h,m.2.2⟩
 have hrel:∀ v x,Rel C.P w E s.row v x→Rel C.P w { E with G:=G' } s.row v (x.frzV t d):=by
  intro v x
  induction x generalizing v with
  | vptr t' o=>
   intro h
   simp only [SV.frzV]
   split
   ·rename_i he; subst he; exact ⟨E.vb t',0,by simpa [Rel] using h,hat⟩
   ·exact h
  | clo f ts=>
   intro h
   simp only [SV.frzV]
   split
   ·rename_i he; subst he
    simp only [Rel,List.map_cons,List.map_nil] at h
    subst h
    refine .clo f [d] [(E.vb t,0)] (fun i j=>cur.getD j undef) rfl (fun i j hi hj=>?_) (fun i j hi hj=>?_) (fun i j hi hj=>?_)
    ·obtain rfl:i=0:=by simpa using hi
     exact .inr rfl
    ·obtain rfl:i=0:=by simpa using hi
     obtain ⟨_,v,h1,h2⟩:=hat j hj
     have hjc:j<cur.size:=by rw [hs]; simpa [PD.length_cells] using hj
     simp only [List.getD_cons_zero,World.cell?,m.2.2,Nat.zero_add]
     simp [Array.getD,hjc]
    ·obtain rfl:i=0:=by simpa using hi
     have hj:j<d.width:=hj
     obtain ⟨_,v,h1,h2⟩:=hat j hj
     have hjc:j<cur.size:=by rw [hs]; simpa [PD.length_cells] using hj
     have:v=cur.getD j undef:=by
      simp only [World.cell?,m.2.2,Nat.zero_add] at h1
      simp [hjc] at h1; simp [Array.getD,hjc,h1]
     rw [← this]; exact h2
   ·split
    ·trivial
    ·exact h
  | gd c x ih=>exact fun h hc=>ih _ (h hc)
  | ifc i x ih=>rintro ⟨u,e,h⟩; exact ⟨u,e,ih _ h⟩
  | dead=>exact fun _=>trivial
  | pd d=>exact fun h=>RdV.keep hk h
  | ref d off=>rintro ⟨b,base,e,h⟩; exact ⟨b,base,e,h.keep hk⟩
  | own id=>exact fun h=>h
  | eptr id i off=>exact fun h=>h
  | tpl ds=>rintro ⟨vs,e,hs,h⟩; exact ⟨vs,e,hs,fun j hj=>(h j hj).keep hk⟩
  | fn F=>exact fun h=>FnOk.keep hk h
  | box _=>exact fun _=>trivial
 refine ⟨{ E with G:=G' },?_⟩
 exact {
  kept:=g.kept
  vfix:=g.vfix
  rfix:=g.rfix
  maps:=fun b mm h=>(g.maps b mm h).keep hk (fun hn o ho=>by
   rcases ho with ho | ho
   ·exact hn o ho
   ·subst ho
    have hm:=g.maps _ mm h
    cases mm with
    | map mp=>obtain ⟨_,es,clock,h1,_⟩:=hm; rw [m.2.2] at h1; cases h1
    | it r' l c=>obtain ⟨_,_,_,_,_,_,h1,_⟩:=hm; rw [m.2.2] at h1; cases h1
    | gone=>obtain ⟨_,x,h1,h2⟩:=hm; rw [m.2.2] at h1; cases h1; exact h2 _ _ _ rfl) (fun _ _ hx _=>hx)
  rnew:=g.rnew
  defers:=g.defers
  size:=g.size
  g0:=fun b o h=>.inl (g.g0 b o h)
  g1:=fun b o h=>by
   rcases h with h | h
   ·exact g.g1 b o h
   ·subst h; exact .inr hw
  tab:=g.tab.keep hk
  gw:=fun b o h=>by
   rcases h with h | h
   ·exact g.gw b o h
   ·subst h; exact m.lt
  slots:=fun j=>by rw [St.get_frzV]; exact hrel _ _ (g.slots j)
  ghosts:=fun j=>by rw [St.gget_frzV]; exact hrel _ _ (g.ghosts j)
  vars:=fun j c h=>by
   obtain ⟨hne,c0,h0,rfl⟩:=hvar j c h
   obtain ⟨cur0,e0,m0,hs0,hr0⟩:=g.vars j c0 h0
   refine ⟨cur0,e0,mn _ _ _ (fun he=>hne (g.vv j t c0 _ h0 hv he)) m0,by simpa using hs0,fun i hi=>?_⟩
   rw [getD_map_kill _ rfl]
   have:=hr0 i (by simpa using hi)
   exact ⟨this.1,hrel _ _ this.2⟩
  rows:=fun j r' h=>by
   rcases g.rows j r' h with h | ⟨b,cap,cur0,h1,m0,h2,h3,h4,h5,h6⟩
   ·exact .inl h
   ·exact .inr ⟨b,cap,cur0,h1,mn _ _ _ (fun he=>g.vr t _ j r' (b,cap) hv h h1 he.symm) m0,h2,h3,h4,h5,fun k j hk' hj=>(h6 k j hk' hj).keep hk⟩
  boxes:=fun j c h=>by
   have h':=hbox j c h
   obtain ⟨h1,⟨e0,m0⟩,h2⟩:=g.boxes j c h'
   exact ⟨h1,⟨e0,mn _ _ _ (fun he=>g.bv j t c _ h' hv he) m0⟩,h2⟩
  vv:=fun j j' c c' h h' he=>by
   obtain ⟨_,_,h,_⟩:=hvar j c h; obtain ⟨_,_,h',_⟩:=hvar j' c' h'
   exact g.vv j j' _ _ h h' he
  rr:=g.rr
  vr:=fun j c i r1 p h h'=>by obtain ⟨_,c0,h0,_⟩:=hvar j c h; exact g.vr j c0 i r1 p h0 h'
  bb:=fun j j' c c' h h'=>g.bb j j' c c' (hbox j c h) (hbox j' c' h')
  bv:=fun j t' c c' h h'=>by obtain ⟨_,c0,h0,_⟩:=hvar t' c' h'; exact g.bv j t' c c0 (hbox j c h) h0
  br:=fun j c i r1 p h h'=>g.br j c i r1 p (hbox j c h) h' }
theorem R.frzV (t:Nat) (d:PD) (hv0:C.vb0 t=none) (hmu:∀ r,C.mu r→False) (hv:s.var t=some (d.cells.map .pd)) (h:R C k (s.frzV t d)):R C k s:=fun a w E g=>by
 obtain ⟨cur,e,m,_⟩:=g.vars t _ hv
 have hw:C.w0.heap.size≤E.vb t:=by rcases m.1 with h | h; exact h; exact (hmu _ h).elim
 obtain ⟨E',g'⟩:=g.frzV hv0 hw hv; exact h a w E' g'
end
end Go.Abs
end
