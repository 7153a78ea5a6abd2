/- What any node of any stack should say of copies, and which say otherwise, is what the document says: part 51 of 51. -/
import Derived.Test.YtfefidkblgendaaGreatDoorA50
set_option linter.all false
/- The laws of chapter 18. -/
