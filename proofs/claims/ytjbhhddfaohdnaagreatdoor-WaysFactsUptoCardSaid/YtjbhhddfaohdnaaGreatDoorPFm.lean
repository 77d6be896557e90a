/- A part of the proof. -/
import Derived.Test.YtjbhhddfaohdnaaGreatDoorCards
import Derived.Test.YtjbhhddfaohdnaaGreatDoorTie
import Derived.WalkKit
import Derived.ProofKit
import Derived.OpenShut
import Derived.Deep.DeepHandedRow
import Derived.Lib.LaidTab
import Derived.Lib.ItoaNum
import Derived.Stop.LaidErr
import Derived.Test.YtjbhhddfaohdnaaGreatDoorPBase
set_option linter.all false
set_option linter.deprecated false
open Go.Proofs.Tryz renaming prog→aai
namespace Go.Proofs.Z
open Go.Proofs.YtjbhhddfaohdnaaGreatDoor
open Go Go.Proofs Go.au Go.ChangeShapes Go.WideShapes Go.ChangeAt Go.RowKit
set_option maxRecDepth 100000
theorem agX:ownKnob aai.godebug=none:=by kernel_rfl
theorem laidOut:laidOutB aai=true:=by kernel_rfl
abbrev KJ:List (String × DataW Unit):=[("math/bits.deBruijn32tab",Rows.laid_math_bits_deBruijn32tab),("math/bits.deBruijn64tab",Rows.laid_math_bits_deBruijn64tab),("internal/strconv.uint64pow10",Rows.laid_internal_strconv_uint64pow10)]
theorem agY:aai.globalNamed "internal/strconv.uint64pow10" = some TB:=by kernel_rfl
theorem UA {W:World} (h:laidMetH aai KJ W):Lib.TabIs aai W "internal/strconv.uint64pow10" .u64 Lib.pow10Tab:=by
 have h:laidMet aai KJ W:=h
 have h2:=laidMet.tail (laidMet.tail h)
 exact Lib.tabIs_of_head (t:=370) (e:=203) (n:=20) (rest:=[]) (zs:=Lib.pow10Tab) agY (by kernel_rfl) (by kernel_rfl) (by kernel_rfl) (by kernel_rfl) (by kernel_rfl) h2
theorem F6 {W:World} (h:laidMetH aai KJ W):Go.au.Good W (Pub.heap W):=by
 have hp:=UA h
 unfold Lib.TabIs World.var? at hp
 rw [agY] at hp
 simp only [Option.bind_some] at hp
 cases hh:W.heap[TB]? with
 | none=>simp [hh] at hp
 | some o=>
  cases o with
  | cells cs e d=>
   simp only [hh,ad2] at hp
   refine ⟨fun _ _ h=>h,(ad6.1 hh).1,e,d,?_⟩
   rw [hh,hp]
   simp [TA,TV,Lib.pow10Tab]
  | _=>simp [hh] at hp
def Rk (h:Array Obj) (g:Nat) (c:Array Value):Array Obj:=h.modify g fun
 | .cells _ t frozen=>.cells c t frozen
 | o=>o
noncomputable def laidWorld (os:Os) (c0 c1 c2:Array Value):World:=
 { World.holding aai os ⟨#[],#[],[]⟩ with heap:=Rk (Rk (Rk (World.holding aai os ⟨#[],#[],[]⟩).heap 0 c0) 1 c1) 2 c2 }
def Rl {H:Type}:DataW H→Array Value
 | .agg l=>(l.map fun x=>match x with | .lit (.int k n)=>Value.int k n | _=>undef).toArray
 | _=>#[]
noncomputable def wF (os:Os):World:=laidWorld os (Rl (H:=Unit) Rows.laid_internal_strconv_uint64pow10) (Rl (H:=Unit) Rows.laid_math_bits_deBruijn32tab) (Rl (H:=Unit) Rows.laid_math_bits_deBruijn64tab)
end Go.Proofs.Z
