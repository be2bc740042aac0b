/- A part of the evaluator, or one closed fact about it. Conditions: none beyond what each theorem states. -/
import GoSem.Step
set_option linter.unusedVariables false
namespace Go.Det

/-! ### a trie over numbers, four ways at each place -/
inductive Tr (α : Type) where
  | leaf
  | node (v : Option α) (a b c d : Tr α)

def Tr.get {α : Type} : Tr α → Nat → Option α
  | .leaf, _ => none
  | .node v a b c d, n => match n with
    | 0 => v
    | m + 1 => match Nat.mod m 4 with
      | 0 => a.get (Nat.div m 4)
      | 1 => b.get (Nat.div m 4)
      | 2 => c.get (Nat.div m 4)
      | _ => d.get (Nat.div m 4)

/-- The place n is laid anew; none: where the depth does not suffice. -/
def Tr.put {α : Type} : Nat → Tr α → Nat → Option α → Option (Tr α)
  | 0, _, _, _ => none
  | f + 1, .leaf, n, x => match n with
    | 0 => some (.node x .leaf .leaf .leaf .leaf)
    | m + 1 => match Tr.put f .leaf (Nat.div m 4) x with
      | none => none
      | some t => match Nat.mod m 4 with
        | 0 => some (.node none t .leaf .leaf .leaf)
        | 1 => some (.node none .leaf t .leaf .leaf)
        | 2 => some (.node none .leaf .leaf t .leaf)
        | _ => some (.node none .leaf .leaf .leaf t)
  | f + 1, .node v a b c d, n, x => match n with
    | 0 => some (.node x a b c d)
    | m + 1 => match Nat.mod m 4 with
      | 0 => match Tr.put f a (Nat.div m 4) x with
        | none => none
        | some t => some (.node v t b c d)
      | 1 => match Tr.put f b (Nat.div m 4) x with
        | none => none
        | some t => some (.node v a t c d)
      | 2 => match Tr.put f c (Nat.div m 4) x with
        | none => none
        | some t => some (.node v a b t d)
      | _ => match Tr.put f d (Nat.div m 4) x with
        | none => none
        | some t => some (.node v a b c t)

/-- A block of the abstract heap: a row of cells (its element's type; 'fx': laid by an append, of elements of so many cells: the true row may be longer; 'ro': not to be written), a map, what is still to come over a channel. -/
inductive AObj where
  | cells (el : Nat) (cs : List Value) (fx : Option Nat) (ro : Bool)
  | map (es : List (Value × Value))
  | pipe (vs : List Value)
  /-- a channel without a buffer, as it was made: nobody else knows of it yet -/
  | chan0

abbrev Heap := Tr AObj

/-- What is known of a frame's temporaries, the last one first. -/
inductive Tmps where
  | nil
  | cons (k : Nat) (v : Value) (r : Tmps)
def Tmps.get : Tmps → Nat → Option Value
  | .nil, _ => none
  | .cons k v r, t => match Nat.beq k t with
    | true => some v
    | false => r.get t
def Tmps.del : Tmps → Nat → Tmps
  | .nil, _ => .nil
  | .cons k v r, t => match Nat.beq k t with
    | true => r.del t
    | false => .cons k v (r.del t)

structure TI where
  desc : TypeDesc
  size : Nat
  bytes : Nat
  zero : List Value
  agg : Bool

structure Tbl where
  fn : Nat → Option Func
  ty : Nat → Option TI
  /-- a struct of so many integers that may be a map's key -/
  key : Nat → Option Nat
  /-- goroutine 0's (it receives), or another's (it sends) -/
  main : Bool

/-! ### strictness: a number is reckoned before it is handed on -/
def nat! {α : Type} (n : Nat) (k : Nat → α) : α := match n with
  | 0 => k 0
  | m + 1 => k (Nat.succ m)
def int! {α : Type} (n : Int) (k : Int → α) : α := match n with
  | .ofNat m => match m with
    | 0 => k (.ofNat 0)
    | m + 1 => k (.ofNat (Nat.succ m))
  | .negSucc m => match m with
    | 0 => k (.negSucc 0)
    | m + 1 => k (.negSucc (Nat.succ m))
def bool! {α : Type} (b : Bool) (k : Bool → α) : α := match b with
  | true => k true
  | false => k false

theorem nat!_eq {α : Type} (n : Nat) (k : Nat → α) : nat! n k = k n := by cases n <;> rfl
theorem int!_eq {α : Type} (n : Int) (k : Int → α) : int! n k = k n := by rcases n with m | m <;> cases m <;> rfl
theorem bool!_eq {α : Type} (b : Bool) (k : Bool → α) : bool! b k = k b := by cases b <;> rfl

/-! ### lists -/
def getL {α : Type} : List α → Nat → Option α
  | [], _ => none
  | v :: r, n => match n with
    | 0 => some v
    | m + 1 => getL r m
/-- the first n -/
def takeL {α : Type} : List α → Nat → Option (List α)
  | l, n => match n with
    | 0 => some []
    | m + 1 => match l with
      | [] => none
      | v :: r => match takeL r m with
        | none => none
        | some s => some (v :: s)
def dropL {α : Type} : List α → Nat → Option (List α)
  | l, n => match n with
    | 0 => some l
    | m + 1 => match l with
      | [] => none
      | _ :: r => dropL r m
/-- the cells from 'off' on -/
def cellsAt {α : Type} (l : List α) (off n : Nat) : Option (List α) := match dropL l off with
  | none => none
  | some r => takeL r n
def putHead {α : Type} : List α → List α → Option (List α)
  | l, [] => some l
  | [], _ :: _ => none
  | _ :: r, x :: xs => match putHead r xs with
    | none => none
    | some s => some (x :: s)
/-- the cells from 'off' on are laid anew -/
def putAt {α : Type} : List α → Nat → List α → Option (List α)
  | l, n, xs => match n with
    | 0 => putHead l xs
    | m + 1 => match l with
      | [] => none
      | v :: r => match putAt r m xs with
        | none => none
        | some s => some (v :: s)
def catL {α : Type} : List α → List α → List α
  | [], b => b
  | x :: a, b => x :: catL a b
def lenL {α : Type} : List α → Nat → Nat
  | [], k => k
  | _ :: r, k => lenL r (Nat.succ k)
def repL {α : Type} (z : List α) : Nat → List α
  | 0 => []
  | n + 1 => catL z (repL z n)

def vcells : Value → List Value
  | .agg cs => cs.toList
  | v => [v]

/-! ### numbers -/
def ltI : Int → Int → Bool
  | .ofNat a, .ofNat b => Nat.blt a b
  | .negSucc _, .ofNat _ => true
  | .ofNat _, .negSucc _ => false
  | .negSucc a, .negSucc b => Nat.blt b a
def eqI : Int → Int → Bool
  | .ofNat a, .ofNat b => Nat.beq a b
  | .negSucc a, .negSucc b => Nat.beq a b
  | _, _ => false
def wrapF (k : IntKind) (n : Int) : Int := match n with
  | .ofNat m => match k with
    | .i64 => bif Nat.blt m 9223372036854775808 then .ofNat m else k.wrap n
    | .u64 => bif Nat.blt m 18446744073709551616 then .ofNat m else k.wrap n
    | .u32 => bif Nat.blt m 4294967296 then .ofNat m else k.wrap n
    | .u8 => bif Nat.blt m 256 then .ofNat m else k.wrap n
    | _ => k.wrap n
  | .negSucc m => match k with
    | .i64 => bif Nat.blt m 9223372036854775808 then .negSucc m else k.wrap n
    | _ => k.wrap n

def kindEq : IntKind → IntKind → Bool
  | .i8, .i8 | .i16, .i16 | .i32, .i32 | .i64, .i64 | .u8, .u8 | .u16, .u16 | .u32, .u32 | .u64, .u64 => true
  | _, _ => false

def natOf : Value → Option Nat
  | .int _ (.ofNat n) => some n
  | _ => none

/-- Holds no address. -/
def afree : Value → Bool
  | .bool _ | .int .. | .string _ | .nilIface | .nilFunc => true
  | .pointer p => p.isNone
  | .slice p a b => p.isNone && (Nat.beq a 0 && Nat.beq b 0)
  | .map p | .chan p => p.isNone
  | _ => false
def afrees : List Value → Bool
  | [] => true
  | v :: r => match afree v with
    | true => afrees r
    | false => false
def lfree : Value → Bool
  | .agg cs => afrees cs.toList
  | v => afree v

def pureRun {α : Type} (P : Program) : Sem α → Option α
  | .pure a => some a
  | .program k => pureRun P (k P)
  | _ => none

end Go.Det
