/- A part of the evaluator, or one closed fact about it. Conditions: none beyond what each theorem states. -/
import Derived.Test.YtohliokdpiafbaaGreatDoorDetE7
import Derived.Test.YtohliokdpiafbaaGreatDoorDetKnT
import Derived.Test.YtohliokdpiafbaaGreatDoorDetKn0
import Derived.Test.YtohliokdpiafbaaGreatDoorDetKn1
import Derived.Test.YtohliokdpiafbaaGreatDoorDetKn2
import Derived.Test.YtohliokdpiafbaaGreatDoorDetKn3
import Derived.Test.YtohliokdpiafbaaGreatDoorDetKn4
import Derived.Test.YtohliokdpiafbaaGreatDoorDetKn5
import Derived.Test.YtohliokdpiafbaaGreatDoorDetKn6
import Derived.Test.YtohliokdpiafbaaGreatDoorDetKn7
import Derived.Test.YtohliokdpiafbaaGreatDoorDetKn8
import Derived.Test.YtohliokdpiafbaaGreatDoorDetKn9
import Derived.Test.YtohliokdpiafbaaGreatDoorDetKn10
import Derived.Test.YtohliokdpiafbaaGreatDoorDetKn11
import Derived.Test.YtohliokdpiafbaaGreatDoorDetKn12
import Derived.Test.YtohliokdpiafbaaGreatDoorDetKn13
import Derived.Test.YtohliokdpiafbaaGreatDoorDetKn14
import Derived.Test.YtohliokdpiafbaaGreatDoorDetKn15
import Derived.Test.YtohliokdpiafbaaGreatDoorDetKn16
import Derived.Test.YtohliokdpiafbaaGreatDoorDetKn17
import Derived.Test.YtohliokdpiafbaaGreatDoorDetKn18
import Derived.Test.YtohliokdpiafbaaGreatDoorDetKn19
import Derived.Test.YtohliokdpiafbaaGreatDoorDetKn20
import Derived.Test.YtohliokdpiafbaaGreatDoorDetKn21
import Derived.Test.YtohliokdpiafbaaGreatDoorDetKn22
import Derived.Test.YtohliokdpiafbaaGreatDoorDetKn23
set_option linter.unusedVariables false
set_option maxRecDepth 100000
namespace Go.Proofs.YtohliokdpiafbaaGreatDoor
open Go.Det
theorem well0 (Post : Value → World → Prop) : CanWell Tryz.prog tbl (ctx0 Tryz.prog Post) can0 := well_of (well_one (well_of well_nil can1_ok)) can0_ok
theorem well2 (Post : Value → World → Prop) : CanWell Tryz.prog tbl (ctx0 Tryz.prog Post) can2 := well_of (well_one (well_of well_nil can3_ok)) can2_ok
theorem well4 (Post : Value → World → Prop) : CanWell Tryz.prog tbl (ctx0 Tryz.prog Post) can4 := well_of (well_one (well_of well_nil can5_ok)) can4_ok
theorem well6 (Post : Value → World → Prop) : CanWell Tryz.prog tbl (ctx0 Tryz.prog Post) can6 := well_of (well_one (well_of well_nil can7_ok)) can6_ok
theorem well8 (Post : Value → World → Prop) : CanWell Tryz.prog tbl (ctx0 Tryz.prog Post) can8 := well_of (well_one (well_of well_nil can9_ok)) can8_ok
theorem well10 (Post : Value → World → Prop) : CanWell Tryz.prog tbl (ctx0 Tryz.prog Post) can10 := well_of (well_one (well_of well_nil can11_ok)) can10_ok
theorem well12 (Post : Value → World → Prop) : CanWell Tryz.prog tbl (ctx0 Tryz.prog Post) can12 := well_of (well_one (well_of well_nil can13_ok)) can12_ok
theorem well14 (Post : Value → World → Prop) : CanWell Tryz.prog tbl (ctx0 Tryz.prog Post) can14 := well_of (well_one (well_of well_nil can15_ok)) can14_ok
theorem well16 (Post : Value → World → Prop) : CanWell Tryz.prog tbl (ctx0 Tryz.prog Post) can16 := well_of (well_one (well_of well_nil can17_ok)) can16_ok
theorem well18 (Post : Value → World → Prop) : CanWell Tryz.prog tbl (ctx0 Tryz.prog Post) can18 := well_of (well_one (well_of well_nil can19_ok)) can18_ok
theorem well20 (Post : Value → World → Prop) : CanWell Tryz.prog tbl (ctx0 Tryz.prog Post) can20 := well_of (well_one (well_of well_nil can21_ok)) can20_ok
theorem well22 (Post : Value → World → Prop) : CanWell Tryz.prog tbl (ctx0 Tryz.prog Post) can22 := well_of (well_one (well_of well_nil can23_ok)) can22_ok
theorem wells (Post : Value → World → Prop) : ∀ c ∈ inTop, CanWell Tryz.prog tbl (ctx0 Tryz.prog Post) c :=
  well_cons (well0 Post) (well_cons (well2 Post) (well_cons (well4 Post) (well_cons (well6 Post) (well_cons (well8 Post) (well_cons (well10 Post) (well_cons (well12 Post) (well_cons (well14 Post) (well_cons (well16 Post) (well_cons (well18 Post) (well_cons (well20 Post) (well_cons (well22 Post) (well_nil))))))))))))
/-- CoachKnown answers true on every schedule, and leaves memory as it was: the tied card. -/
theorem coachKnown_holds : Rows.CoachKnownCardSaid := known_card (known_row wells known_top)
#print axioms coachKnown_holds
end Go.Proofs.YtohliokdpiafbaaGreatDoor
