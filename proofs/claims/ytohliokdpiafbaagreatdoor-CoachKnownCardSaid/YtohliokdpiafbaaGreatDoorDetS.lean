/- A part of the evaluator, or one closed fact about it. Conditions: none beyond what each theorem states. -/
import Derived.Test.YtohliokdpiafbaaGreatDoorDetC
set_option linter.unusedVariables false
namespace Go.Det

/-- every second cell -/
def evens : List Value → List Value
  | a :: _ :: r => a :: evens r
  | _ => []
def ownSets (p : Int) : List Value → Nat → List Value → List Value
  | [], _, acc => acc
  | .int _ q :: r, i, acc => ownSets p r (i + 1) (bif q == p then .int .i64 (Int.ofNat i) :: acc else acc)
  | _ :: r, i, acc => ownSets p r (i + 1) acc

/-- a row is no longer written -/
def roMark (h : Heap) (i : Nat) : Option Heap := match Tr.get h i with
  | some (.cells el cs fx _) => hput h i (.cells el cs fx true)
  | _ => none
/-- some blocks of a heap alone -/
def pickH (h : Heap) : List Nat → Option Heap
  | [] => some .leaf
  | i :: r => match Tr.get h i, pickH h r with
    | some o, some acc => hput acc i o
    | _, _ => none
def noSp : Sp := fun _ _ _ _ => none
def restItems (fn : Func) : List Item := match fn.body with
  | some c => match c with
    | .seq _ r => [.code r]
    | _ => []
  | none => []

/-- what (*best.scene).order is told by: the numbers of its function literal, of the types *scene and chan int, steps -/
structure OrdI where
  child : Nat
  tb : Nat
  tc : Nat
  fuel : Nat

def allSent (c n : Nat) : R3 → Bool
  | some (_, h, n') => match Tr.get h c with
    | some (.pipe []) => Nat.beq n' n
    | _ => false
  | none => false
/-- the literal is run, and sends just these values -/
def childOk (P : Program) (T : Tbl) (i : OrdI) (h : Heap) (n : Nat) (ids : List Nat) : Bool := match T.fn i.child, pickH h ids with
  | some fn, some hc => match keepOf fn with
    | .mk m => allSent (Nat.succ n) (Nat.succ (Nat.succ (Nat.succ n))) (aRun P { T with main := false } noSp i.fuel ⟨fn.ntmps, m⟩ (restItems fn)
        (.cons 4 (.chan (some (Nat.succ n))) (.cons 0 (.pointer (some ⟨Nat.succ (Nat.succ n), 0, none⟩)) (.cons 1 (.pointer (some ⟨n, 0, none⟩)) .nil))) hc (Nat.succ (Nat.succ (Nat.succ n))))
  | _, _ => false

def isPipe : AObj → Bool
  | .pipe _ => true
  | _ => false
/-- no channel stands open -/
def noPipe : Heap → Bool
  | .leaf => true
  | .node v a b c d => match (match v with | some o => isPipe o | none => false) with
    | true => false
    | false => match noPipe a with
      | false => false
      | true => match noPipe b with
        | false => false
        | true => match noPipe c with
          | false => false
          | true => noPipe d
/-- up to the go statement -/
def orderH (i : OrdI) (s : Addr) (h : Heap) (n : Nat) : Option Heap := match hput h n (.cells i.tb [.pointer (some s)] none false) with
  | none => none
  | some h1 => match hput h1 (Nat.succ n) .chan0 with
    | none => none
    | some h2 => match hput h2 (Nat.succ (Nat.succ n)) (.cells i.tc [.chan none] none false) with
      | none => none
      | some h3 => storeN h3 ⟨Nat.succ (Nat.succ n), 0, none⟩ [.chan (some (Nat.succ n))]
def marks (h : Heap) : List Nat → Option Heap
  | [] => some h
  | i :: r => match roMark h i with
    | some h => marks h r
    | none => none
def orderB (P : Program) (T : Tbl) (i : OrdI) (s : Addr) (rs : List Nat) (us : List Value) (h : Heap) (n : Nat) : Option (Value × Heap × Nat) := match noPipe h, orderH i s h n with
  | true, some h4 => match marks h4 (n :: Nat.succ (Nat.succ n) :: rs) with
    | none => none
    | some h8 => match hput h8 (Nat.succ n) (.pipe us) with
      | none => none
      | some h9 => match childOk P T i h9 n (n :: Nat.succ n :: Nat.succ (Nat.succ n) :: rs) with
        | true => some (.chan (some (Nat.succ n)), h9, Nat.succ (Nat.succ (Nat.succ n)))
        | false => none
  | _, _ => none
def orderA (P : Program) (T : Tbl) (i : OrdI) (args : List Value) (h : Heap) (n : Nat) : Option (Value × Heap × Nat) := match args with
  | [.pointer (some ⟨sb, so, none⟩)] => match loadN h ⟨sb, so, none⟩ 6 with
    | some [_, _, .slice b l _, _, .int _ p, _] => match b with
      | some a => match loadN h a (Nat.mul 2 l) with
        | some is => orderB P T i ⟨sb, so, none⟩ [sb, a.block] (ownSets p (evens is) 0 []) h n
        | none => none
      | none => orderB P T i ⟨sb, so, none⟩ [sb] [] h n
    | _ => none
  | _ => none

/-- the two calls that are told otherwise: abi.NoEscape hands its argument back; (*best.scene).order lays a channel over which the player's sets come, the last one first -/
def sp43 (P : Program) (T : Tbl) (noEscape order : Nat) (i : OrdI) : Sp := fun g args h n =>
  bif Nat.beq g noEscape then some (match args with | [v] => some (v, h, n) | _ => none)
  else bif Nat.beq g order then some (orderA P T i args h n)
  else none
end Go.Det
