/- A part of the evaluator, or one closed fact about it. Conditions: none beyond what each theorem states. -/
import Derived.Test.YtohliokdpiafbaaGreatDoorDetS
set_option linter.unusedVariables false
namespace Go.Det

/-! ### calls whose answers are proved apart -/
/-- a call at just this place of the run: its arguments, what it reads (which is no longer written from then on), its answer and what it leaves -/
structure Can where
  g : Nat
  n : Nat
  args : List Value
  pat : List (Nat × AObj)
  v : Value
  n' : Nat
  outs : List (Nat × AObj)

def veqL : List Value → List Value → Bool
  | [], [] => true
  | a :: r, b :: s => match veq a b with
    | true => veqL r s
    | false => false
  | _, _ => false
def veqT : Value → Value → Bool
  | .tuple a, .tuple b => veqL a.toList b.toList
  | a, b => veq a b
/-- the same, but that it may still be written -/
def like (o o' : AObj) : Bool := match o, o' with
  | .cells e cs fx true, .cells e' cs' fx' _ => match veqs cs cs' with
    | true => Nat.beq e e' && fxEq fx fx'
    | false => false
  | _, _ => false
def patIn (h : Heap) : List (Nat × AObj) → Bool
  | [] => true
  | (i, o) :: r => match Tr.get h i with
    | some o' => match like o o' with
      | true => patIn h r
      | false => false
    | none => false
def putsH (h : Heap) : List (Nat × AObj) → Option Heap
  | [] => some h
  | (i, o) :: r => match hput h i o with
    | some h => putsH h r
    | none => none
def isCells : AObj → Bool
  | .cells .. => true
  | _ => false
def outsIn (n n' : Nat) (h : Heap) : List (Nat × AObj) → Bool
  | [] => true
  | (i, o) :: r => match Nat.ble n i && (Nat.blt i n' && isCells o) with
    | true => match Tr.get h i with
      | some o' => match aeq o o' with
        | true => outsIn n n' h r
        | false => false
      | none => false
    | false => false
def canA (c : Can) (args : List Value) (h : Heap) : Option (Value × Heap × Nat) := match veqL args c.args with
  | true => match patIn h c.pat with
    | true => match noPipe h with
      | true => match putsH h c.pat with
        | some h => match putsH h c.outs with
          | some h => some (c.v, h, c.n')
          | none => none
        | none => none
      | false => none
    | false => none
  | false => none
def findCan (g n : Nat) : List Can → Option Can
  | [] => none
  | c :: r => match Nat.beq c.n n && Nat.beq c.g g with
    | true => some c
    | false => findCan g n r
def canSp (cs : List Can) (sp : Sp) : Sp := fun g args h n => match findCan g n cs with
  | some c => some (canA c args h)
  | none => sp g args h n

def canR (c : Can) : Option (Value × Heap × Nat) → Bool
  | some (v, h, n') => match veqT v c.v with
    | true => match Nat.beq n' c.n' with
      | true => match noPipe h with
        | true => outsIn c.n c.n' h c.outs
        | false => false
      | false => false
    | false => false
  | none => false
/-- the call's own run gives this answer -/
def canOk (P : Program) (T : Tbl) (sp : Sp) (F : Nat) (c : Can) : Bool := match T.fn c.g with
  | some fn => match patIn (match putsH .leaf c.pat with | some h => h | none => .leaf) c.pat with
    | true => match putsH .leaf c.pat with
      | some h => canR c (bodyA T (aRun P T sp F) fn c.args h c.n)
      | none => false
    | false => false
  | none => false
end Go.Det
