/- What any node of any stack should say of copies, and which say otherwise, is what the document says: part 36 of 51. -/
import Derived.Test.YtfefidkblgendaaGreatDoorChecked
import Derived.Test.YtfefidkblgendaaGreatDoorA35
set_option linter.all false
/- AL: the functions of this seat's translation in AL's short form, written by gencode.py out of Lean's own print of them; each with the fact that it is so. -/
set_option maxRecDepth 100000
namespace Go.Proofs.YtfefidkblgendaaGreatDoor.AL
open Go Go.Proofs
end Go.Proofs.YtfefidkblgendaaGreatDoor.AL

