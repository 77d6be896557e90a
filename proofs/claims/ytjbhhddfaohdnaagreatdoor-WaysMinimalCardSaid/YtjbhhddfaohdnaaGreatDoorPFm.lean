/- A part of the proof: Fm. -/
import Derived.Test.YtjbhhddfaohdnaaGreatDoorCards
import Derived.Test.YtjbhhddfaohdnaaGreatDoorTie
import Derived.WalkKit
import Derived.ProofKit
import Derived.OpenShut
import Derived.Below
import Derived.Deep.DeepHandedRow
import Derived.Lib.LaidTab
import Derived.Lib.ItoaNum
import Derived.Stop.LaidErr
import Derived.Test.YtjbhhddfaohdnaaGreatDoorPAy3
import Derived.Test.YtjbhhddfaohdnaaGreatDoorPBase
set_option linter.all false
set_option linter.deprecated false
namespace Go.Proofs.YtjbhhddfaohdnaaGreatDoor
open Go Go.Proofs Go.Abs Go.ChangeShapes Go.WideShapes Go.ChangeAt Go.RowKit
set_option maxRecDepth 100000
theorem ownK:ownKnob Tryz.prog.godebug = none:=by kernel_rfl
theorem laidOut:laidOutB Tryz.prog = true:=by kernel_rfl
abbrev laid3:List (String × DataW Unit):=[("math/bits.deBruijn32tab",Rows.laid_math_bits_deBruijn32tab),("math/bits.deBruijn64tab",Rows.laid_math_bits_deBruijn64tab),("internal/strconv.uint64pow10",Rows.laid_internal_strconv_uint64pow10)]
theorem gPow:Tryz.prog.globalNamed "internal/strconv.uint64pow10" = some TB:=by kernel_rfl
theorem pow_of_laid {W:World} (h:laidMetH Tryz.prog laid3 W):Lib.TabIs Tryz.prog W "internal/strconv.uint64pow10" .u64 Lib.pow10Tab:=by
 have h:laidMet Tryz.prog laid3 W:=h
 have h2:=laidMet.tail (laidMet.tail h)
 exact Lib.tabIs_of_head (t:=370) (e:=203) (n:=20) (rest:=[]) (zs:=Lib.pow10Tab) gPow (by kernel_rfl) (by kernel_rfl) (by kernel_rfl) (by kernel_rfl) (by kernel_rfl) h2
theorem good_of_laid {W:World} (h:laidMetH Tryz.prog laid3 W):Go.Abs.Good W (Pub.heap W):=by
 have hp:=pow_of_laid h
 unfold Lib.TabIs World.var? at hp
 rw [gPow] at hp
 simp only [Option.bind_some] at hp
 cases hh:W.heap[TB]? with
 | none=>simp [hh] at hp
 | some o=>
  cases o with
  | cells cs e d=>
   simp only [hh,Option.some.injEq] at hp
   refine ⟨fun _ _ h=>h,(Array.getElem?_eq_some_iff.1 hh).1,e,d,?_⟩
   rw [hh,hp]
   simp [TA,TV,Lib.pow10Tab]
  | _=>simp [hh] at hp
def setTab (h:Array Obj) (g:Nat) (c:Array Value):Array Obj:=h.modify g fun
 | .cells _ t frozen=>.cells c t frozen
 | o=>o
noncomputable def laidWorld (os:Os) (c0 c1 c2:Array Value):World:=
 { World.holding Tryz.prog os ⟨#[],#[],[]⟩ with heap:=setTab (setTab (setTab (World.holding Tryz.prog os ⟨#[],#[],[]⟩).heap 0 c0) 1 c1) 2 c2 }
def litsOf {H:Type}:DataW H→Array Value
 | .agg l=>(l.map fun x=>match x with | .lit (.int k n)=>Value.int k n | _=>undef).toArray
 | _=>#[]
noncomputable def theWorld (os:Os):World:=laidWorld os (litsOf (H:=Unit) Rows.laid_internal_strconv_uint64pow10) (litsOf (H:=Unit) Rows.laid_math_bits_deBruijn32tab) (litsOf (H:=Unit) Rows.laid_math_bits_deBruijn64tab)
theorem opens_ints {H:Type} {enc:TypeId × Value→H} {w:World}:Opens enc Tryz.prog w 27 1 ints:=
 opens_slice (opens_int Tryz.underlying3) (by decide) Tryz.underlying27 (by kernel_rfl)
theorem opens_ways {H:Type} {enc:TypeId × Value→H} {w:World}:Opens enc Tryz.prog w 32 1 ways:=by
 have h:=opens_slice (enc:=enc) (w:=w) (opens_pair (opens_ints (enc:=enc) (w:=w)) (opens_ints (enc:=enc) (w:=w)) (fun _=>rfl) (fun _=>rfl) Tryz.underlying53 (by kernel_rfl) (by kernel_rfl) (by kernel_rfl) rfl rfl) (by decide) Tryz.underlying32 (by kernel_rfl)
 refine ⟨fun _=>rfl,fun fuel cs x hx=>?_⟩
 obtain ⟨l,h1,h2⟩:=h.2 fuel cs x hx
 refine ⟨l.map fun p=>⟨p.1,p.2⟩,h1,fun j hj=>?_⟩
 have:=h2 j hj
 simp only [ways,List.map_map]
 exact this
end Go.Proofs.YtjbhhddfaohdnaaGreatDoor
