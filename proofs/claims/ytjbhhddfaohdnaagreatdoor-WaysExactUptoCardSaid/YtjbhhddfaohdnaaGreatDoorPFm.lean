/- A part of the proof. -/
import Derived.Test.YtjbhhddfaohdnaaGreatDoorCards
import Derived.Test.YtjbhhddfaohdnaaGreatDoorTie
import Derived.WalkKit
import Derived.ProofKit
import Derived.OpenShut
import Derived.Deep.DeepHandedRow
import Derived.Lib.LaidTab
import Derived.Lib.ItoaNum
import Derived.Stop.LaidErr
import Derived.Test.YtjbhhddfaohdnaaGreatDoorPBase
set_option linter.all false
set_option linter.deprecated false
open Go.Proofs.Tryz renaming prog→abZ
namespace Go.Proofs.Z
open Go.Proofs.YtjbhhddfaohdnaaGreatDoor
open Go Go.Proofs Go.au Go.ChangeShapes Go.WideShapes Go.ChangeAt Go.RowKit
set_option maxRecDepth 100000
theorem alC:ownKnob abZ.godebug=none:=by kernel_rfl
theorem laidOut:laidOutB abZ=true:=by kernel_rfl
abbrev OD:List (String × DataW Unit):=[("math/bits.deBruijn32tab",Rows.laid_math_bits_deBruijn32tab),("math/bits.deBruijn64tab",Rows.laid_math_bits_deBruijn64tab),("internal/strconv.uint64pow10",Rows.laid_internal_strconv_uint64pow10)]
theorem afl:abZ.globalNamed "internal/strconv.uint64pow10" = some TB:=by kernel_rfl
theorem Sm {W:World} (h:laidMetH abZ OD W):Lib.TabIs abZ W "internal/strconv.uint64pow10" .u64 Lib.pow10Tab:=by
 have h:laidMet abZ OD W:=h
 have h2:=laidMet.tail (laidMet.tail h)
 exact Lib.tabIs_of_head (t:=370) (e:=203) (n:=20) (rest:=[]) (zs:=Lib.pow10Tab) afl (by kernel_rfl) (by kernel_rfl) (by kernel_rfl) (by kernel_rfl) (by kernel_rfl) h2
theorem P6 {W:World} (h:laidMetH abZ OD W):Go.au.Good W (Pub.heap W):=by
 have hp:=Sm h
 unfold Lib.TabIs World.var? at hp
 rw [afl] at hp
 simp only [Option.bind_some] at hp
 cases hh:W.heap[TB]? with
 | none=>simp [hh] at hp
 | some o=>
  cases o with
  | cells cs e d=>
   simp only [hh,acX] at hp
   refine ⟨fun _ _ h=>h,(acR.1 hh).1,e,d,?_⟩
   rw [hh,hp]
   simp [TA,TV,Lib.pow10Tab]
  | _=>simp [hh] at hp
def P7 (h:Array Obj) (g:Nat) (c:Array Value):Array Obj:=h.modify g fun
 | .cells _ t frozen=>.cells c t frozen
 | o=>o
noncomputable def laidWorld (os:Os) (c0 c1 c2:Array Value):World:=
 { World.holding abZ os ⟨#[],#[],[]⟩ with heap:=P7 (P7 (P7 (World.holding abZ os ⟨#[],#[],[]⟩).heap 0 c0) 1 c1) 2 c2 }
def P8 {H:Type}:DataW H→Array Value
 | .agg l=>(l.map fun x=>match x with | .lit (.int k n)=>Value.int k n | _=>undef).toArray
 | _=>#[]
noncomputable def Iw (os:Os):World:=laidWorld os (P8 (H:=Unit) Rows.laid_internal_strconv_uint64pow10) (P8 (H:=Unit) Rows.laid_math_bits_deBruijn32tab) (P8 (H:=Unit) Rows.laid_math_bits_deBruijn64tab)
end Go.Proofs.Z
