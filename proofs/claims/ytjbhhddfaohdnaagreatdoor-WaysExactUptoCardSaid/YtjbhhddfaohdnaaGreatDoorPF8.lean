/- WaysExact of cleanselaw34 returns true for every schema, query, facts and list of truth values whose bulk is at most 1048576, and each argument reads afterwards as before. Conditions: that bound, that the arguments can be read, and those of the given card, which ties the tables uint64pow10, deBruijn32tab and deBruijn64tab to the text of the program. -/
import Derived.Test.YtjbhhddfaohdnaaGreatDoorPHe
set_option linter.all false
set_option linter.deprecated false
namespace Go.Proofs.YtjbhhddfaohdnaaGreatDoor
open Go.Proofs.Z
open Go Go.au
theorem waysExact_card:Rows.WaysExactUptoCardSaid:=ajS fun tl p fs x h1 h2=>aef aeg tl p fs x h1 h2
end Go.Proofs.YtjbhhddfaohdnaaGreatDoor
