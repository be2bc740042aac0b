/- A part of the evaluator, or one closed fact about it. Conditions: none beyond what each theorem states. -/
import Derived.Test.YtohliokdpiafbaaGreatDoorDetC1
set_option linter.unusedVariables false
namespace Go.Det
def l0 : List Int := [48, 49, 50, 51, 52, 53, 54, 55, 56, 57]
def l1 : List Int := [0, 1, 56, 2, 57, 49, 28, 3, 61, 58, 42, 50, 38, 29, 17, 4, 62, 47, 59, 36, 45, 43, 51, 22, 53, 39, 33, 30, 24, 18, 12, 5, 63, 55, 48, 27, 60, 41, 37, 16, 46, 35, 44, 21, 52, 32, 23, 11, 54, 26, 40, 15, 34, 20, 31, 10, 25, 14, 19, 9, 13, 8, 7, 6]
def l2 : List Int := [1, 10, 100, 1000, 10000, 100000, 1000000, 10000000, 100000000, 1000000000, 10000000000, 100000000000, 1000000000000, 10000000000000, 100000000000000, 1000000000000000, 10000000000000000, 100000000000000000, 1000000000000000000, 10000000000000000000]
def l3 : List Int := [0, 1, 28, 2, 29, 14, 24, 3, 30, 22, 20, 15, 25, 17, 4, 8, 31, 27, 13, 23, 21, 19, 16, 7, 26, 12, 18, 6, 11, 5, 10, 9]
def h0 : Heap := .node (some (.cells 210 (l0.map (.int .u8)) none true))
  (.node (some (.cells 287 (l1.map (.int .u8)) none true)) .leaf .leaf .leaf .leaf)
  (.node (some (.cells 329 (l2.map (.int .u64)) none true)) .leaf .leaf .leaf .leaf)
  (.node (some (.cells 355 (l3.map (.int .u8)) none true)) .leaf .leaf .leaf .leaf)
  .leaf

/-- the whole run -/
def topB (P : Program) (T : Tbl) (sp : Sp) (F g : Nat) (args : List Value) (h : Heap) (n : Nat) : Bool := match T.fn g with
  | some fn => match bodyA T (aRun P T sp F) fn args h n with
    | some (v, h', _) => match v with
      | .bool true => noPipe h'
      | _ => false
    | none => false
  | none => false
end Go.Det
