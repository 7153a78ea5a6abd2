/- What any node of any stack should say of copies, and which say otherwise, is what the document says: part 52 of 52. -/
import Derived.Test.YtapdjibjnfeipaaGreatDoorA51
set_option linter.all false
/- Two laws of chapter 17. -/
