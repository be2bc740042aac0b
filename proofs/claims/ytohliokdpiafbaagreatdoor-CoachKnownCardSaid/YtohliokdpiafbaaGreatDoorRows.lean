/-
  NARROWER THAN 'FOR EVERY INPUT', by the rows' own cells (each row's printed sentence says how): CoachTexts: laid · CoachReviews: laid · CoachCosts: laid · CoachKnown: laid · CoachLeaks: laid · CoachScales: laid · CoachPaths: laid.
  DERIVED. THE GIVEN ROWS OF THIS SEAT. 7 by the template 'for every input the law returns true; each argument reads behind the call as it read before'; 0 by the template 'total and deterministic' (their statements: YtohliokdpiafbaaGreatDoorTotals.lean).
  GIVEN WITH THE SEED: the statements are not yours to turn. If you find one false, say at which input.
  Laid BY PROGRAM, IN A SANDBOX (cutbox-rows.mjs): the forced cells as the released guide's own fill.sh prints them over the translation fcb15c6c721e73a7… (all of the seat's roots in one cut). By AI agents, Wed Nov 11 2026. No macro, syntax, notation, axiom, sorry.
-/
import Derived.Test.YtohliokdpiafbaaGreatDoorChecked
import GoSem.Claim
import GoSem.ClaimJoined
import GoSem.ClaimMapViews
import Derived.JoinedTies
import Derived.KernelRfl
namespace Go.Proofs.YtohliokdpiafbaaGreatDoor
/- THE CELL 'sum', in the pinned program and in every row, IS THE sha256 OF THE DUMP (.gsa) THAT YtohliokdpiafbaaGreatDoorProg.lean LOADS. Nothing in Lean hashes anything: it is a label: what it is worth is what the hold of that sum in a sandbox is worth. -/
noncomputable def Tryz.pinned : Pinned := { name := "ytohliokdpiafbaagreatdoor", sum := "fcb15c6c721e73a7fa70e6d2d9e0196353f738899914171087b1aaf88d11f4c0", checked := Tryz.checked }
namespace Rows
def none {H : Type} : Left H := { results := [], args := [] }

/- WHAT THE LISTED PACKAGE-LEVEL VARIABLES READ AS WHEN THE CALL BEGINS. Each datum BY PROGRAM (the guide's laid-datum.mjs) off the statement by which the dump's own 'gosem.cut.vars' lays the variable. In a bare row this is a premise. The card (YtohliokdpiafbaaGreatDoorCards.lean) ties it to the program's text. -/
def laid_math_bits_deBruijn32tab {H : Type} : DataW H := .agg [.lit (.int .u8 0), .lit (.int .u8 1), .lit (.int .u8 28), .lit (.int .u8 2), .lit (.int .u8 29), .lit (.int .u8 14), .lit (.int .u8 24), .lit (.int .u8 3), .lit (.int .u8 30), .lit (.int .u8 22), .lit (.int .u8 20), .lit (.int .u8 15), .lit (.int .u8 25), .lit (.int .u8 17), .lit (.int .u8 4), .lit (.int .u8 8), .lit (.int .u8 31), .lit (.int .u8 27), .lit (.int .u8 13), .lit (.int .u8 23), .lit (.int .u8 21), .lit (.int .u8 19), .lit (.int .u8 16), .lit (.int .u8 7), .lit (.int .u8 26), .lit (.int .u8 12), .lit (.int .u8 18), .lit (.int .u8 6), .lit (.int .u8 11), .lit (.int .u8 5), .lit (.int .u8 10), .lit (.int .u8 9)]
def laid_math_bits_deBruijn64tab {H : Type} : DataW H := .agg [.lit (.int .u8 0), .lit (.int .u8 1), .lit (.int .u8 56), .lit (.int .u8 2), .lit (.int .u8 57), .lit (.int .u8 49), .lit (.int .u8 28), .lit (.int .u8 3), .lit (.int .u8 61), .lit (.int .u8 58), .lit (.int .u8 42), .lit (.int .u8 50), .lit (.int .u8 38), .lit (.int .u8 29), .lit (.int .u8 17), .lit (.int .u8 4), .lit (.int .u8 62), .lit (.int .u8 47), .lit (.int .u8 59), .lit (.int .u8 36), .lit (.int .u8 45), .lit (.int .u8 43), .lit (.int .u8 51), .lit (.int .u8 22), .lit (.int .u8 53), .lit (.int .u8 39), .lit (.int .u8 33), .lit (.int .u8 30), .lit (.int .u8 24), .lit (.int .u8 18), .lit (.int .u8 12), .lit (.int .u8 5), .lit (.int .u8 63), .lit (.int .u8 55), .lit (.int .u8 48), .lit (.int .u8 27), .lit (.int .u8 60), .lit (.int .u8 41), .lit (.int .u8 37), .lit (.int .u8 16), .lit (.int .u8 46), .lit (.int .u8 35), .lit (.int .u8 44), .lit (.int .u8 21), .lit (.int .u8 52), .lit (.int .u8 32), .lit (.int .u8 23), .lit (.int .u8 11), .lit (.int .u8 54), .lit (.int .u8 26), .lit (.int .u8 40), .lit (.int .u8 15), .lit (.int .u8 34), .lit (.int .u8 20), .lit (.int .u8 31), .lit (.int .u8 10), .lit (.int .u8 25), .lit (.int .u8 14), .lit (.int .u8 19), .lit (.int .u8 9), .lit (.int .u8 13), .lit (.int .u8 8), .lit (.int .u8 7), .lit (.int .u8 6)]
def laid_internal_strconv_uint64pow10 {H : Type} : DataW H := .agg [.lit (.int .u64 1), .lit (.int .u64 10), .lit (.int .u64 100), .lit (.int .u64 1000), .lit (.int .u64 10000), .lit (.int .u64 100000), .lit (.int .u64 1000000), .lit (.int .u64 10000000), .lit (.int .u64 100000000), .lit (.int .u64 1000000000), .lit (.int .u64 10000000000), .lit (.int .u64 100000000000), .lit (.int .u64 1000000000000), .lit (.int .u64 10000000000000), .lit (.int .u64 100000000000000), .lit (.int .u64 1000000000000000), .lit (.int .u64 10000000000000000), .lit (.int .u64 100000000000000000), .lit (.int .u64 1000000000000000000), .lit (.int .u64 10000000000000000000)]
def laid_parlour_nat_digits {H : Type} : DataW H := .agg [.lit (.int .u8 48), .lit (.int .u8 49), .lit (.int .u8 50), .lit (.int .u8 51), .lit (.int .u8 52), .lit (.int .u8 53), .lit (.int .u8 54), .lit (.int .u8 55), .lit (.int .u8 56), .lit (.int .u8 57)]

/-- 'parlourlaw43.CoachTexts': WHATEVER THE INPUT: true; the input reads as it did. -/
def coachTextsSpec : ChangeSpec := { name := "coachTexts", fn := fun _ => fun
  | [d1, d2] => { results := [.lit (.bool true)], args := [d1, d2] }
  | _ => none }
def coachTextsRow : OpenClaim := { program := "ytohliokdpiafbaagreatdoor", sum := "fcb15c6c721e73a7fa70e6d2d9e0196353f738899914171087b1aaf88d11f4c0", func := "parlour/parlourlaw43.CoachTexts", spec := "coachTexts", inPlace := ["internal/abi.NoEscape"], unfollowed := true, recurses := true, named := ["math/bits.deBruijn64tab", "parlour/nat.digits", "internal/strconv.uint64pow10", "math/bits.deBruijn32tab"], plainKeys := false, leaving := true, apart := false, laid := [("math/bits.deBruijn32tab", laid_math_bits_deBruijn32tab), ("math/bits.deBruijn64tab", laid_math_bits_deBruijn64tab), ("internal/strconv.uint64pow10", laid_internal_strconv_uint64pow10), ("parlour/nat.digits", laid_parlour_nat_digits)] }
def CoachTextsSaid : Prop := coachTextsRow.holds Tryz.pinned (OpenSpec.ofChange coachTextsSpec)

/-- ITS FALSE NEIGHBOUR: 'it returns false'. Refute it at one input. -/
def coachTextsWrong : ChangeSpec := { name := "coachTexts", fn := fun _ => fun
  | [d1, d2] => { results := [.lit (.bool false)], args := [d1, d2] }
  | _ => none }
def CoachTextsWrongFalsely : Prop := coachTextsRow.holds Tryz.pinned (OpenSpec.ofChange coachTextsWrong)

/-- 'parlourlaw43.CoachReviews': WHATEVER THE INPUT: true; the input reads as it did. -/
def coachReviewsSpec : ChangeSpec := { name := "coachReviews", fn := fun _ => fun
  | [d1, d2, d3, d4] => { results := [.lit (.bool true)], args := [d1, d2, d3, d4] }
  | _ => none }
def coachReviewsRow : OpenClaim := { program := "ytohliokdpiafbaagreatdoor", sum := "fcb15c6c721e73a7fa70e6d2d9e0196353f738899914171087b1aaf88d11f4c0", func := "parlour/parlourlaw43.CoachReviews", spec := "coachReviews", inPlace := ["internal/abi.NoEscape"], unfollowed := true, recurses := true, named := ["math/bits.deBruijn64tab", "parlour/nat.digits", "internal/strconv.uint64pow10", "math/bits.deBruijn32tab"], plainKeys := false, leaving := true, apart := false, laid := [("math/bits.deBruijn32tab", laid_math_bits_deBruijn32tab), ("math/bits.deBruijn64tab", laid_math_bits_deBruijn64tab), ("internal/strconv.uint64pow10", laid_internal_strconv_uint64pow10), ("parlour/nat.digits", laid_parlour_nat_digits)] }
def CoachReviewsSaid : Prop := coachReviewsRow.holds Tryz.pinned (OpenSpec.ofChange coachReviewsSpec)

/-- ITS FALSE NEIGHBOUR: 'it returns false'. Refute it at one input. -/
def coachReviewsWrong : ChangeSpec := { name := "coachReviews", fn := fun _ => fun
  | [d1, d2, d3, d4] => { results := [.lit (.bool false)], args := [d1, d2, d3, d4] }
  | _ => none }
def CoachReviewsWrongFalsely : Prop := coachReviewsRow.holds Tryz.pinned (OpenSpec.ofChange coachReviewsWrong)

/-- 'parlourlaw43.CoachCosts': WHATEVER THE INPUT: true; the input reads as it did. -/
def coachCostsSpec : ChangeSpec := { name := "coachCosts", fn := fun _ => fun
  | [d1, d2, d3, d4, d5, d6] => { results := [.lit (.bool true)], args := [d1, d2, d3, d4, d5, d6] }
  | _ => none }
def coachCostsRow : OpenClaim := { program := "ytohliokdpiafbaagreatdoor", sum := "fcb15c6c721e73a7fa70e6d2d9e0196353f738899914171087b1aaf88d11f4c0", func := "parlour/parlourlaw43.CoachCosts", spec := "coachCosts", inPlace := ["internal/abi.NoEscape"], unfollowed := true, recurses := true, named := ["math/bits.deBruijn64tab", "parlour/nat.digits", "internal/strconv.uint64pow10", "math/bits.deBruijn32tab"], plainKeys := false, leaving := true, apart := false, laid := [("math/bits.deBruijn32tab", laid_math_bits_deBruijn32tab), ("math/bits.deBruijn64tab", laid_math_bits_deBruijn64tab), ("internal/strconv.uint64pow10", laid_internal_strconv_uint64pow10), ("parlour/nat.digits", laid_parlour_nat_digits)] }
def CoachCostsSaid : Prop := coachCostsRow.holds Tryz.pinned (OpenSpec.ofChange coachCostsSpec)

/-- ITS FALSE NEIGHBOUR: 'it returns false'. Refute it at one input. -/
def coachCostsWrong : ChangeSpec := { name := "coachCosts", fn := fun _ => fun
  | [d1, d2, d3, d4, d5, d6] => { results := [.lit (.bool false)], args := [d1, d2, d3, d4, d5, d6] }
  | _ => none }
def CoachCostsWrongFalsely : Prop := coachCostsRow.holds Tryz.pinned (OpenSpec.ofChange coachCostsWrong)

/-- 'parlourlaw43.CoachKnown': WHATEVER THE INPUT: true; the input reads as it did. -/
def coachKnownSpec : ChangeSpec := { name := "coachKnown", fn := fun _ => fun
  | [] => { results := [.lit (.bool true)], args := [] }
  | _ => none }
def coachKnownRow : OpenClaim := { program := "ytohliokdpiafbaagreatdoor", sum := "fcb15c6c721e73a7fa70e6d2d9e0196353f738899914171087b1aaf88d11f4c0", func := "parlour/parlourlaw43.CoachKnown", spec := "coachKnown", inPlace := ["internal/abi.NoEscape"], unfollowed := true, recurses := true, named := ["math/bits.deBruijn64tab", "parlour/nat.digits", "internal/strconv.uint64pow10", "math/bits.deBruijn32tab"], plainKeys := false, leaving := true, apart := false, laid := [("math/bits.deBruijn32tab", laid_math_bits_deBruijn32tab), ("math/bits.deBruijn64tab", laid_math_bits_deBruijn64tab), ("internal/strconv.uint64pow10", laid_internal_strconv_uint64pow10), ("parlour/nat.digits", laid_parlour_nat_digits)] }
def CoachKnownSaid : Prop := coachKnownRow.holds Tryz.pinned (OpenSpec.ofChange coachKnownSpec)

/-- ITS FALSE NEIGHBOUR: 'it returns false'. Refute it at one input. -/
def coachKnownWrong : ChangeSpec := { name := "coachKnown", fn := fun _ => fun
  | [] => { results := [.lit (.bool false)], args := [] }
  | _ => none }
def CoachKnownWrongFalsely : Prop := coachKnownRow.holds Tryz.pinned (OpenSpec.ofChange coachKnownWrong)

/-- 'parlourlaw43.CoachLeaks': WHATEVER THE INPUT: true; the input reads as it did. -/
def coachLeaksSpec : ChangeSpec := { name := "coachLeaks", fn := fun _ => fun
  | [d1, d2, d3] => { results := [.lit (.bool true)], args := [d1, d2, d3] }
  | _ => none }
def coachLeaksRow : OpenClaim := { program := "ytohliokdpiafbaagreatdoor", sum := "fcb15c6c721e73a7fa70e6d2d9e0196353f738899914171087b1aaf88d11f4c0", func := "parlour/parlourlaw43.CoachLeaks", spec := "coachLeaks", inPlace := ["internal/abi.NoEscape"], unfollowed := true, recurses := true, named := ["math/bits.deBruijn64tab", "parlour/nat.digits", "internal/strconv.uint64pow10", "math/bits.deBruijn32tab"], plainKeys := false, leaving := true, apart := false, laid := [("math/bits.deBruijn32tab", laid_math_bits_deBruijn32tab), ("math/bits.deBruijn64tab", laid_math_bits_deBruijn64tab), ("internal/strconv.uint64pow10", laid_internal_strconv_uint64pow10), ("parlour/nat.digits", laid_parlour_nat_digits)] }
def CoachLeaksSaid : Prop := coachLeaksRow.holds Tryz.pinned (OpenSpec.ofChange coachLeaksSpec)

/-- ITS FALSE NEIGHBOUR: 'it returns false'. Refute it at one input. -/
def coachLeaksWrong : ChangeSpec := { name := "coachLeaks", fn := fun _ => fun
  | [d1, d2, d3] => { results := [.lit (.bool false)], args := [d1, d2, d3] }
  | _ => none }
def CoachLeaksWrongFalsely : Prop := coachLeaksRow.holds Tryz.pinned (OpenSpec.ofChange coachLeaksWrong)

/-- 'parlourlaw43.CoachScales': WHATEVER THE INPUT: true; the input reads as it did. -/
def coachScalesSpec : ChangeSpec := { name := "coachScales", fn := fun _ => fun
  | [d1, d2, d3, d4, d5] => { results := [.lit (.bool true)], args := [d1, d2, d3, d4, d5] }
  | _ => none }
def coachScalesRow : OpenClaim := { program := "ytohliokdpiafbaagreatdoor", sum := "fcb15c6c721e73a7fa70e6d2d9e0196353f738899914171087b1aaf88d11f4c0", func := "parlour/parlourlaw43.CoachScales", spec := "coachScales", inPlace := ["internal/abi.NoEscape"], unfollowed := true, recurses := true, named := ["math/bits.deBruijn64tab", "parlour/nat.digits", "internal/strconv.uint64pow10", "math/bits.deBruijn32tab"], plainKeys := false, leaving := true, apart := false, laid := [("math/bits.deBruijn32tab", laid_math_bits_deBruijn32tab), ("math/bits.deBruijn64tab", laid_math_bits_deBruijn64tab), ("internal/strconv.uint64pow10", laid_internal_strconv_uint64pow10), ("parlour/nat.digits", laid_parlour_nat_digits)] }
def CoachScalesSaid : Prop := coachScalesRow.holds Tryz.pinned (OpenSpec.ofChange coachScalesSpec)

/-- ITS FALSE NEIGHBOUR: 'it returns false'. Refute it at one input. -/
def coachScalesWrong : ChangeSpec := { name := "coachScales", fn := fun _ => fun
  | [d1, d2, d3, d4, d5] => { results := [.lit (.bool false)], args := [d1, d2, d3, d4, d5] }
  | _ => none }
def CoachScalesWrongFalsely : Prop := coachScalesRow.holds Tryz.pinned (OpenSpec.ofChange coachScalesWrong)

/-- 'parlourlaw43.CoachPaths': WHATEVER THE INPUT: true; the input reads as it did. -/
def coachPathsSpec : ChangeSpec := { name := "coachPaths", fn := fun _ => fun
  | [d1, d2, d3, d4] => { results := [.lit (.bool true)], args := [d1, d2, d3, d4] }
  | _ => none }
def coachPathsRow : OpenClaim := { program := "ytohliokdpiafbaagreatdoor", sum := "fcb15c6c721e73a7fa70e6d2d9e0196353f738899914171087b1aaf88d11f4c0", func := "parlour/parlourlaw43.CoachPaths", spec := "coachPaths", inPlace := ["internal/abi.NoEscape"], unfollowed := true, recurses := true, named := ["math/bits.deBruijn64tab", "parlour/nat.digits", "internal/strconv.uint64pow10", "math/bits.deBruijn32tab"], plainKeys := false, leaving := true, apart := false, laid := [("math/bits.deBruijn32tab", laid_math_bits_deBruijn32tab), ("math/bits.deBruijn64tab", laid_math_bits_deBruijn64tab), ("internal/strconv.uint64pow10", laid_internal_strconv_uint64pow10), ("parlour/nat.digits", laid_parlour_nat_digits)] }
def CoachPathsSaid : Prop := coachPathsRow.holds Tryz.pinned (OpenSpec.ofChange coachPathsSpec)

/-- ITS FALSE NEIGHBOUR: 'it returns false'. Refute it at one input. -/
def coachPathsWrong : ChangeSpec := { name := "coachPaths", fn := fun _ => fun
  | [d1, d2, d3, d4] => { results := [.lit (.bool false)], args := [d1, d2, d3, d4] }
  | _ => none }
def CoachPathsWrongFalsely : Prop := coachPathsRow.holds Tryz.pinned (OpenSpec.ofChange coachPathsWrong)

/- THE SECOND FORM. 'bulk': how many values and letters a reading holds, each counted each time it is reached (what is shared counts as often as it is met; a slice's spare places count too). A statement '..UptoSaid' is the law's where the arguments, and the package variables that the reading takes, are together of bulk at most 1048576: NARROWER than '..Said'. Prove '..Said' where nothing that the law and all that it calls make is longer than what came in: it says more and counts as full. Else prove '..UptoSaid'. A law counts once. -/
mutual
def uptoBulk {H : Type} : DataW H → Nat
  | .lit (.string bytes) => bytes.length + 1
  | .lit _ => 1
  | .nil => 1
  | .ptr d => uptoBulk d + 1
  | .slice elems spare => uptoBulkAll elems + uptoBulkAll spare + 1
  | .agg parts => uptoBulkAll parts + 1
  | .iface _ d => uptoBulk d + 1
  | .map entries => uptoBulkEntries entries + 1
  | .held _ => 1
def uptoBulkAll {H : Type} : List (DataW H) → Nat
  | [] => 0
  | d :: r => uptoBulk d + uptoBulkAll r
def uptoBulkEntries {H : Type} : List (Lit × DataW H) → Nat
  | [] => 0
  | x :: r => uptoBulkEntry x + uptoBulkEntries r
def uptoBulkEntry {H : Type} : Lit × DataW H → Nat
  | (.string bytes, d) => bytes.length + uptoBulk d + 1
  | (_, d) => uptoBulk d + 1
 end
def uptoSmall : (H : Type) → List (DataW H) → Bool := fun _ ds => decide (uptoBulkAll ds ≤ 1048576)
def OpenSpec.upto (s : _root_.Go.ChangeSpec) : _root_.Go.OpenSpec := { _root_.Go.OpenSpec.ofChange s with cond := some uptoSmall }

/-- 'parlourlaw43.CoachTexts', WHERE WHAT IT READS IS OF BULK AT MOST 1048576: true; the input reads as it did. -/
def coachTextsUptoRow : OpenClaim := { program := "ytohliokdpiafbaagreatdoor", sum := "fcb15c6c721e73a7fa70e6d2d9e0196353f738899914171087b1aaf88d11f4c0", func := "parlour/parlourlaw43.CoachTexts", spec := "coachTexts", inPlace := ["internal/abi.NoEscape"], unfollowed := true, recurses := true, named := ["math/bits.deBruijn64tab", "parlour/nat.digits", "internal/strconv.uint64pow10", "math/bits.deBruijn32tab"], plainKeys := false, leaving := true, apart := false, laid := [("math/bits.deBruijn32tab", laid_math_bits_deBruijn32tab), ("math/bits.deBruijn64tab", laid_math_bits_deBruijn64tab), ("internal/strconv.uint64pow10", laid_internal_strconv_uint64pow10), ("parlour/nat.digits", laid_parlour_nat_digits)], narrowed := true }
def CoachTextsUptoSaid : Prop := coachTextsUptoRow.holds Tryz.pinned (OpenSpec.upto coachTextsSpec)

/-- 'parlourlaw43.CoachReviews', WHERE WHAT IT READS IS OF BULK AT MOST 1048576: true; the input reads as it did. -/
def coachReviewsUptoRow : OpenClaim := { program := "ytohliokdpiafbaagreatdoor", sum := "fcb15c6c721e73a7fa70e6d2d9e0196353f738899914171087b1aaf88d11f4c0", func := "parlour/parlourlaw43.CoachReviews", spec := "coachReviews", inPlace := ["internal/abi.NoEscape"], unfollowed := true, recurses := true, named := ["math/bits.deBruijn64tab", "parlour/nat.digits", "internal/strconv.uint64pow10", "math/bits.deBruijn32tab"], plainKeys := false, leaving := true, apart := false, laid := [("math/bits.deBruijn32tab", laid_math_bits_deBruijn32tab), ("math/bits.deBruijn64tab", laid_math_bits_deBruijn64tab), ("internal/strconv.uint64pow10", laid_internal_strconv_uint64pow10), ("parlour/nat.digits", laid_parlour_nat_digits)], narrowed := true }
def CoachReviewsUptoSaid : Prop := coachReviewsUptoRow.holds Tryz.pinned (OpenSpec.upto coachReviewsSpec)

/-- 'parlourlaw43.CoachCosts', WHERE WHAT IT READS IS OF BULK AT MOST 1048576: true; the input reads as it did. -/
def coachCostsUptoRow : OpenClaim := { program := "ytohliokdpiafbaagreatdoor", sum := "fcb15c6c721e73a7fa70e6d2d9e0196353f738899914171087b1aaf88d11f4c0", func := "parlour/parlourlaw43.CoachCosts", spec := "coachCosts", inPlace := ["internal/abi.NoEscape"], unfollowed := true, recurses := true, named := ["math/bits.deBruijn64tab", "parlour/nat.digits", "internal/strconv.uint64pow10", "math/bits.deBruijn32tab"], plainKeys := false, leaving := true, apart := false, laid := [("math/bits.deBruijn32tab", laid_math_bits_deBruijn32tab), ("math/bits.deBruijn64tab", laid_math_bits_deBruijn64tab), ("internal/strconv.uint64pow10", laid_internal_strconv_uint64pow10), ("parlour/nat.digits", laid_parlour_nat_digits)], narrowed := true }
def CoachCostsUptoSaid : Prop := coachCostsUptoRow.holds Tryz.pinned (OpenSpec.upto coachCostsSpec)

/-- 'parlourlaw43.CoachKnown', WHERE WHAT IT READS IS OF BULK AT MOST 1048576: true; the input reads as it did. -/
def coachKnownUptoRow : OpenClaim := { program := "ytohliokdpiafbaagreatdoor", sum := "fcb15c6c721e73a7fa70e6d2d9e0196353f738899914171087b1aaf88d11f4c0", func := "parlour/parlourlaw43.CoachKnown", spec := "coachKnown", inPlace := ["internal/abi.NoEscape"], unfollowed := true, recurses := true, named := ["math/bits.deBruijn64tab", "parlour/nat.digits", "internal/strconv.uint64pow10", "math/bits.deBruijn32tab"], plainKeys := false, leaving := true, apart := false, laid := [("math/bits.deBruijn32tab", laid_math_bits_deBruijn32tab), ("math/bits.deBruijn64tab", laid_math_bits_deBruijn64tab), ("internal/strconv.uint64pow10", laid_internal_strconv_uint64pow10), ("parlour/nat.digits", laid_parlour_nat_digits)], narrowed := true }
def CoachKnownUptoSaid : Prop := coachKnownUptoRow.holds Tryz.pinned (OpenSpec.upto coachKnownSpec)

/-- 'parlourlaw43.CoachLeaks', WHERE WHAT IT READS IS OF BULK AT MOST 1048576: true; the input reads as it did. -/
def coachLeaksUptoRow : OpenClaim := { program := "ytohliokdpiafbaagreatdoor", sum := "fcb15c6c721e73a7fa70e6d2d9e0196353f738899914171087b1aaf88d11f4c0", func := "parlour/parlourlaw43.CoachLeaks", spec := "coachLeaks", inPlace := ["internal/abi.NoEscape"], unfollowed := true, recurses := true, named := ["math/bits.deBruijn64tab", "parlour/nat.digits", "internal/strconv.uint64pow10", "math/bits.deBruijn32tab"], plainKeys := false, leaving := true, apart := false, laid := [("math/bits.deBruijn32tab", laid_math_bits_deBruijn32tab), ("math/bits.deBruijn64tab", laid_math_bits_deBruijn64tab), ("internal/strconv.uint64pow10", laid_internal_strconv_uint64pow10), ("parlour/nat.digits", laid_parlour_nat_digits)], narrowed := true }
def CoachLeaksUptoSaid : Prop := coachLeaksUptoRow.holds Tryz.pinned (OpenSpec.upto coachLeaksSpec)

/-- 'parlourlaw43.CoachScales', WHERE WHAT IT READS IS OF BULK AT MOST 1048576: true; the input reads as it did. -/
def coachScalesUptoRow : OpenClaim := { program := "ytohliokdpiafbaagreatdoor", sum := "fcb15c6c721e73a7fa70e6d2d9e0196353f738899914171087b1aaf88d11f4c0", func := "parlour/parlourlaw43.CoachScales", spec := "coachScales", inPlace := ["internal/abi.NoEscape"], unfollowed := true, recurses := true, named := ["math/bits.deBruijn64tab", "parlour/nat.digits", "internal/strconv.uint64pow10", "math/bits.deBruijn32tab"], plainKeys := false, leaving := true, apart := false, laid := [("math/bits.deBruijn32tab", laid_math_bits_deBruijn32tab), ("math/bits.deBruijn64tab", laid_math_bits_deBruijn64tab), ("internal/strconv.uint64pow10", laid_internal_strconv_uint64pow10), ("parlour/nat.digits", laid_parlour_nat_digits)], narrowed := true }
def CoachScalesUptoSaid : Prop := coachScalesUptoRow.holds Tryz.pinned (OpenSpec.upto coachScalesSpec)

/-- 'parlourlaw43.CoachPaths', WHERE WHAT IT READS IS OF BULK AT MOST 1048576: true; the input reads as it did. -/
def coachPathsUptoRow : OpenClaim := { program := "ytohliokdpiafbaagreatdoor", sum := "fcb15c6c721e73a7fa70e6d2d9e0196353f738899914171087b1aaf88d11f4c0", func := "parlour/parlourlaw43.CoachPaths", spec := "coachPaths", inPlace := ["internal/abi.NoEscape"], unfollowed := true, recurses := true, named := ["math/bits.deBruijn64tab", "parlour/nat.digits", "internal/strconv.uint64pow10", "math/bits.deBruijn32tab"], plainKeys := false, leaving := true, apart := false, laid := [("math/bits.deBruijn32tab", laid_math_bits_deBruijn32tab), ("math/bits.deBruijn64tab", laid_math_bits_deBruijn64tab), ("internal/strconv.uint64pow10", laid_internal_strconv_uint64pow10), ("parlour/nat.digits", laid_parlour_nat_digits)], narrowed := true }
def CoachPathsUptoSaid : Prop := coachPathsUptoRow.holds Tryz.pinned (OpenSpec.upto coachPathsSpec)

end Rows
end Go.Proofs.YtohliokdpiafbaaGreatDoor
