/- WaysMinimal of cleanselaw34 returns true for every list of ways and every list of numbers, and each argument reads afterwards as before. Conditions: none beyond those of the given card, which ties the tables uint64pow10, deBruijn32tab and deBruijn64tab to the text of the program. -/
import Derived.Test.YtjbhhddfaohdnaaGreatDoorPC5
import Derived.Test.YtjbhhddfaohdnaaGreatDoorPL5
import Derived.Test.YtjbhhddfaohdnaaGreatDoorPHe
set_option linter.all false
set_option linter.deprecated false
namespace Go.Proofs.YtjbhhddfaohdnaaGreatDoor
open Go Go.Abs
theorem waysMinimal_card:Rows.WaysMinimalCardSaid:=card5 (law5_ok head_ok)
end Go.Proofs.YtjbhhddfaohdnaaGreatDoor
