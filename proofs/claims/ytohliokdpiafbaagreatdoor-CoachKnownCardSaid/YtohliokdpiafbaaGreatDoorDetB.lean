/- A part of the evaluator, or one closed fact about it. Conditions: none beyond what each theorem states. -/
import Derived.Test.YtohliokdpiafbaaGreatDoorDetA
set_option linter.unusedVariables false
namespace Go.Det

/-! ### the abstract heap -/
def depth : Nat := 24
def hput (h : Heap) (i : Nat) (o : AObj) : Option Heap := Tr.put depth h i (some o)
def hdel (h : Heap) (i : Nat) : Option Heap := Tr.put depth h i none

def loadN (h : Heap) (a : Addr) (n : Nat) : Option (List Value) := match a with
  | ⟨b, off, none⟩ => match Tr.get h b with
    | some (.cells _ cs _ _) => cellsAt cs off n
    | _ => none
  | _ => none
def cellOk : Value → Bool
  | .agg _ => false
  | .tuple _ => false
  | _ => true
def cellsOk : List Value → Bool
  | [] => true
  | v :: r => match cellOk v with
    | true => cellsOk r
    | false => false
def storeN (h : Heap) (a : Addr) (vs : List Value) : Option Heap := match a with
  | ⟨b, off, none⟩ => match Tr.get h b with
    | some (.cells el cs fx false) => match cellsOk vs, putAt cs off vs with
      | true, some cs => hput h b (.cells el cs fx false)
      | _, _ => none
    | _ => none
  | _ => none

/-- a pointer some cells on -/
def addP (a : Addr) (k : Nat) : Option Value := match a with
  | ⟨b, off, none⟩ => nat! (Nat.add off k) fun o => some (.pointer (some ⟨b, o, none⟩))
  | _ => none
def addA (a : Addr) (k : Nat) : Option Addr := match a with
  | ⟨b, off, none⟩ => nat! (Nat.add off k) fun o => some ⟨b, o, none⟩
  | _ => none

/-! ### types -/
def sizeT (T : Tbl) (t : Nat) : Option Nat := match T.ty t with | some i => some i.size | none => none
def descT (T : Tbl) (t : Nat) : Option TypeDesc := match T.ty t with | some i => some i.desc | none => none
/-- a slice's element: its type, how many cells it has, how many bytes -/
def elemT (T : Tbl) (t : Nat) : Option (Nat × Nat × Nat) := match T.ty t with
  | some i => match i.desc with
    | .slice e => match T.ty e with | some j => some (e, j.size, j.bytes) | none => none
    | _ => none
  | none => none
/-- an array's length and element -/
def arrT (T : Tbl) (t : Nat) : Option (Nat × Nat × Nat) := match T.ty t with
  | some i => match i.desc with
    | .array n e => match T.ty e with | some j => some (n, e, j.size) | none => none
    | _ => none
  | none => none
/-- a field's type and offset -/
def fieldT (T : Tbl) (s f : Nat) : Option (Nat × Nat) := match T.ty s with
  | some i => match i.desc with
    | .struct fs => match fs[f]? with
      | some fd => some (fd.type, fd.offset)
      | none => none
    | _ => none
  | none => none
/-- .. where it has cells -/
def fieldOff (T : Tbl) (s f : Nat) : Option Nat := match fieldT T s f with
  | some (t, off) => match sizeT T t with
    | some (_ + 1) => some off
    | _ => none
  | none => none

/-- whether a value of this type is a row of cells, and how many -/
def shapeT (T : Tbl) (t : Nat) : Option (Bool × Nat) := match T.ty t with | some i => some (i.agg, i.size) | none => none

def loadT (T : Tbl) (h : Heap) (t : Nat) (a : Addr) : Option Value := match shapeT T t with
  | some (true, n) => match loadN h a n with
    | some cs => some (.agg ⟨cs⟩)
    | none => none
  | some (false, _) => match loadN h a 1 with
    | some [v] => some v
    | _ => none
  | none => none
def partA (T : Tbl) (t : Nat) (cs : List Value) (off : Nat) : Option Value := match shapeT T t with
  | some (true, n) => match cellsAt cs off n with
    | some cs => some (.agg ⟨cs⟩)
    | none => none
  | some (false, _) => getL cs off
  | none => none

/-! ### operands -/
def ev (tm : Tmps) : Operand → Option Value
  | .tmp t => tm.get t
  | .const v => match lfree v with
    | true => some v
    | false => none
  | .global g => match Nat.blt g 64 with
    | true => some (.pointer (some ⟨g, 0, none⟩))
    | false => none
  | .func f => some (.func (.func f) #[] #[])
def evs (tm : Tmps) : List Operand → Option (List Value)
  | [] => some []
  | x :: r => match ev tm x with
    | none => none
    | some v => match evs tm r with
      | none => none
      | some s => some (v :: s)
def evParts (tm : Tmps) : List (Nat × Operand) → Option (List (Nat × Value))
  | [] => some []
  | (i, x) :: r => match ev tm x with
    | none => none
    | some v => match evParts tm r with
      | none => none
      | some s => some ((i, v) :: s)

inductive AR where
  | val (v : Value) (h : Heap) (n : Nat)
  | skip (h : Heap) (n : Nat)
  | enter (f : Nat) (args : List Value)
  | recv (ok : Bool) (z : Value) (c : Nat)
  | send (c : Nat) (v : Value)

/-- a new block, and what points to it -/
def newA (h : Heap) (n : Nat) (o : AObj) (v : Value) : Option AR := match hput h n o with
  | some h => nat! (Nat.succ n) fun m => some (.val v h m)
  | none => none
def valA (h : Heap) (n : Nat) : Option Value → Option AR
  | some v => some (.val v h n)
  | none => none
def skipA (n : Nat) : Option Heap → Option AR
  | some h => some (.skip h n)
  | none => none

/-! ### each operation -/
def oPick (tm : Tmps) (c a b : Operand) : Option Value := match ev tm c with
  | some (.bool true) => ev tm a
  | some (.bool false) => ev tm b
  | _ => none

def fillL (place : Nat → Option (Nat × Nat)) (cells : List Value) : List (Nat × Value) → Option (List Value)
  | [] => some cells
  | (i, v) :: rest => match place i with
    | some (off, size) => match Nat.beq (lenL (vcells v) 0) size with
      | true => match putAt cells off (vcells v) with
        | some cs => fillL place cs rest
        | none => none
      | false => none
    | none => none
def placeS (T : Tbl) (t i : Nat) : Option (Nat × Nat) := match fieldT T t i with
  | some (ft, off) => match sizeT T ft with
    | some s => some (off, s)
    | none => none
  | none => none
def zeroT (T : Tbl) (t : Nat) : Option (List Value) := match T.ty t with | some i => some i.zero | none => none

def fieldsOk (T : Tbl) : List Field → Bool
  | [] => true
  | f :: r => match T.ty f.type with
    | some _ => fieldsOk T r
    | none => false
def oBuild (T : Tbl) (tm : Tmps) (t : Nat) (parts : List (Nat × Operand)) : Option Value := match zeroT T t, evParts tm parts with
  | some z, some ps => match descT T t with
    | some (.struct fs) => match fieldsOk T fs.toList with
      | true => match fillL (placeS T t) z ps with
        | some cs => some (.agg ⟨cs⟩)
        | none => none
      | false => none
    | some (.array _ e) => match sizeT T e with
      | some sz => match fillL (fun i => some (Nat.mul i sz, sz)) z ps with
        | some cs => some (.agg ⟨cs⟩)
        | none => none
      | none => none
    | _ => none
  | _, _ => none

def oBuildSlice (T : Tbl) (tm : Tmps) (t len : Nat) (parts : List (Nat × Operand)) (h : Heap) (n : Nat) : Option AR := match elemT T t with
  | some (e, sz, _) => match zeroT T e, evParts tm parts with
    | some z, some ps => match Nat.ble (Nat.mul len sz) 100000 with
      | true => match fillL (fun i => some (Nat.mul i sz, sz)) (repL z len) ps with
        | some cs => newA h n (.cells e cs none false) (.slice (some ⟨n, 0, none⟩) len len)
        | none => none
      | false => none
    | _, _ => none
  | none => none

def oLoad (T : Tbl) (t : Nat) (h : Heap) : Option Value → Option Value
  | some (.pointer (some a)) => loadT T h t a
  | _ => none
def oStore (T : Tbl) (t : Nat) (h : Heap) : Option Value → Option Value → Option Heap
  | some (.pointer (some a)), some v => match sizeT T t with
    | some sz => match Nat.beq (lenL (vcells v) 0) sz with
      | true => storeN h a (vcells v)
      | false => none
    | none => none
  | _, _ => none
def oNilCheck : Option Value → Option Value
  | some (.pointer (some a)) => some (.pointer (some a))
  | some (.func (.func f) a b) => some (.func (.func f) a b)
  | _ => none

def intV (k : IntKind) (n : Int) : Option Value := int! (wrapF k n) fun n => some (.int k n)
def boolV (b : Bool) : Option Value := bool! b fun b => some (.bool b)
def nz : Int → Bool
  | .ofNat 0 => false
  | _ => true

def binInt (P : Program) (op : BinOp) (t : Nat) (k l : IntKind) (a b : Int) : Option Value := match op with
  | .add => bif kindEq k l then intV k (Int.add a b) else none
  | .sub => bif kindEq k l then intV k (Int.sub a b) else none
  | .mul => bif kindEq k l then intV k (Int.mul a b) else none
  | .quo => bif kindEq k l && nz b then intV k (Int.tdiv a b) else none
  | .rem => bif kindEq k l && nz b then int! (Int.tmod a b) fun n => some (.int k n) else none
  | .eql => bif kindEq k l then boolV (eqI a b) else none
  | .neq => bif kindEq k l then boolV (not (eqI a b)) else none
  | .lss => bif kindEq k l then boolV (ltI a b) else none
  | .leq => bif kindEq k l then boolV (not (ltI b a)) else none
  | .gtr => bif kindEq k l then boolV (ltI b a) else none
  | .geq => bif kindEq k l then boolV (not (ltI a b)) else none
  | .shl => bif nz b && ltI b (.ofNat 0) then none else match pureRun P (Op.shift .shl k a l b) with
    | some (.int k n) => int! n fun n => some (.int k n)
    | _ => none
  | .shr => match pureRun P (Op.shift .shr k a l b) with
    | some (.int k n) => int! n fun n => some (.int k n)
    | _ => none
  | _ => match pureRun P (binOp op t (.int k a) (.int l b)) with
    | some (.int k n) => int! n fun n => some (.int k n)
    | _ => none

def addrEq (a b : Addr) : Option Bool := match a, b with
  | ⟨b, o, none⟩, ⟨b', o', none⟩ => match Nat.beq b b' with
    | true => some (Nat.beq o o')
    | false => none
  | _, _ => none

/-- how values of a type are held against one another: 1: slices, 2: pointers, 3: functions, against nil or one another -/
def eqT (T : Tbl) (t : Nat) : Nat := match descT T t with
  | some (.slice _) => 1
  | some (.pointer e) => match sizeT T e with
    | some (_ + 1) => 2
    | _ => 0
  | some (.func ..) => 3
  | _ => 0
def eqRef (k : Nat) : Value → Value → Option Bool
  | .slice a _ _, .slice none _ _ => match k with
    | 1 => some a.isNone
    | _ => none
  | .slice none _ _, .slice b _ _ => match k with
    | 1 => some b.isNone
    | _ => none
  | .pointer a, .pointer none => match k with
    | 2 => some a.isNone
    | _ => none
  | .pointer (some a), .pointer (some b) => match k with
    | 2 => addrEq a b
    | _ => none
  | .func .., .nilFunc => match k with
    | 3 => some false
    | _ => none
  | _, _ => none
def isNilI : Value → Bool
  | .nilIface => true
  | _ => false

def binRef (P : Program) (T : Tbl) (op : BinOp) (t : Nat) (x y : Value) : Option Value :=
  match eqRef (eqT T t) x y with
  | some e => match op with
    | .eql => boolV e
    | .neq => boolV (not e)
    | _ => none
  | none => match lfree x && (lfree y && not (isNilI x)) with
    | true => match pureRun P (do eqGuard op t (.tmp 0) (.tmp 0) x y; binOp op t x y) with
      | some (.bool b) => boolV b
      | some (.string s) => some (.string s)
      | _ => none
    | false => none

def oBin (P : Program) (T : Tbl) (op : BinOp) (t : Nat) : Option Value → Option Value → Option Value
  | some (.int k a), some (.int l b) => binInt P op t k l a b
  | some x, some y => binRef P T op t x y
  | _, _ => none

def oUn (P : Program) (op : UnOp) : Option Value → Option Value
  | some v => match afree v with
    | true => match pureRun P (Op.unary op v) with
      | some (.int k n) => int! n fun n => some (.int k n)
      | some (.bool b) => boolV b
      | _ => none
    | false => none
  | none => none

def bytesOf : List Value → Option (List UInt8)
  | [] => some []
  | .int .u8 (.ofNat n) :: r => match bytesOf r with
    | some s => some (UInt8.ofNat n :: s)
    | none => none
  | _ => none

inductive Cv where
  | ints (k : IntKind) | str | rune | bytes | ptr (u : Nat) | raw (u : Nat) | other
def convT (T : Tbl) (s d : Nat) : Cv := match descT T s, descT T d with
  | some (.int _), some (.int k) => .ints k
  | some .string, some .string => .str
  | some (.int _), some .string => .rune
  | some (.slice e), some .string => match descT T e with
    | some (.int .u8) => .bytes
    | _ => .other
  | some (.pointer u), some .unsafePointer => match sizeT T u with
    | some (_ + 1) => .ptr u
    | _ => .other
  | some .unsafePointer, some (.pointer u) => match sizeT T u with
    | some (_ + 1) => .raw u
    | _ => .other
  | _, _ => .other
def oConv (T : Tbl) (s d : Nat) (h : Heap) : Option Value → Option Value
  | some v => match convT T s d with
    | .ints k => match v with
      | .int _ m => intV k m
      | _ => none
    | .str => match v with
      | .string b => some (.string b)
      | _ => none
    | .rune => match v with
      | .int _ m => some (.string (Utf8.encode m))
      | _ => none
    | .bytes => match v with
      | .slice none _ _ => some (.string .empty)
      | .slice (some a) l _ => match loadN h a l with
        | some cs => match bytesOf cs with
          | some bs => some (.string ⟨⟨bs⟩⟩)
          | none => none
        | none => none
      | _ => none
    | .ptr _ => match v with
      | .pointer none => some (.pointer none)
      | .pointer (some ⟨b, off, none⟩) => match Tr.get h b with
        | some (.cells _ cs _ _) => match Nat.blt off (lenL cs 0) with
          | true => some (.pointer (some ⟨b, off, none⟩))
          | false => none
        | _ => none
      | _ => none
    | .raw u => match v with
      | .pointer none => some (.pointer none)
      | .pointer (some ⟨b, 0, none⟩) => match Tr.get h b, sizeT T u with
        | some (.cells el cs none _), some sz => match Nat.beq el u && Nat.beq (lenL cs 0) sz with
          | true => some (.pointer (some ⟨b, 0, none⟩))
          | false => none
        | _, _ => none
      | _ => none
    | .other => none
  | none => none

def oMakeSlice (T : Tbl) (t : Nat) (h : Heap) (n : Nat) : Option Value → Option Value → Option AR
  | some l, some c => match elemT T t, natOf l, natOf c with
    | some (e, _, by'), some l, some c => match Nat.ble l c && (Nat.ble c 100000 && Nat.ble by' 1000) with
      | true => match zeroT T e with
        | some z => newA h n (.cells e (repL z c) none false) (.slice (some ⟨n, 0, none⟩) l c)
        | none => none
      | false => none
    | _, _, _ => none
  | _, _ => none

def oMakeChan (T : Tbl) (t : Nat) (h : Heap) (n : Nat) : Option Value → Option AR
  | some (.int _ (.ofNat 0)) => match descT T t with
    | some (.chan _ e) => match T.ty e with
      | some _ => newA h n .chan0 (.chan (some n))
      | none => none
    | _ => none
  | _ => none

def bound (tm : Tmps) (x : Option Operand) (dflt y : Nat) : Option Nat := match x with
  | none => some dflt
  | some x => match ev tm x with
    | some v => match natOf v with
      | some n => match Nat.ble n y with
        | true => some n
        | false => none
      | none => none
    | none => none
/-- low, high, max of a slice expression -/
def bounds (tm : Tmps) (lo hi mx : Option Operand) (len cap : Nat) : Option (Nat × Nat × Nat) := match bound tm mx cap cap with
  | some m => match mx, hi with
    | some _, none => none
    | _, _ => match bound tm hi len m with
      | some hh => match bound tm lo 0 hh with
        | some ll => some (ll, hh, m)
        | none => none
      | none => none
  | none => none
def exact (h : Heap) (a : Addr) : Bool := match Tr.get h a.block with
  | some (.cells _ _ none _) => true
  | _ => false
def sliceV (a : Addr) (ll hh m sz : Nat) : Option Value := match Nat.beq m ll with
  | true => nat! (Nat.sub hh ll) fun l => some (.slice (some a) l 0)
  | false => match addA a (Nat.mul ll sz) with
    | some a => nat! (Nat.sub hh ll) fun l => nat! (Nat.sub m ll) fun c => some (.slice (some a) l c)
    | none => none
def sliceP (h : Heap) (a : Addr) (sz : Nat) (x : Option (Nat × Nat × Nat)) : Option Value := match exact h a, x with
  | true, some (ll, hh, m) => sliceV a ll hh m sz
  | _, _ => none
def oSlice (T : Tbl) (tm : Tmps) (t : Nat) (lo hi mx : Option Operand) (h : Heap) : Option Value → Option Value
  | some (.string s) => match mx, descT T t with
    | none, some .string => match bounds tm lo hi none s.size s.size with
      | some (ll, hh, _) => some (.string (s.extract ll hh))
      | none => none
    | _, _ => none
  | some (.slice none len cap) => match elemT T t, bounds tm lo hi mx len cap with
    | some _, some (ll, hh, m) => nat! (Nat.sub hh ll) fun l => nat! (Nat.sub m ll) fun c => some (.slice none l c)
    | _, _ => none
  | some (.slice (some a) len cap) => match elemT T t, bounds tm lo hi mx len cap with
    | some (_, sz, _), some (ll, hh, m) => match Tr.get h a.block with
      | some (.cells _ _ none _) => sliceV a ll hh m sz
      | some (.cells _ _ (some s') _) => match Nat.beq s' sz && (Nat.beq ll 0 || Nat.blt ll m) with
        | true => sliceV a ll hh m sz
        | false => none
      | _ => none
    | _, _ => none
  | some (.pointer (some a)) => match descT T t with
    | some (.pointer arr) => match arrT T arr with
      | some (k, _, sz) => sliceP h a sz (bounds tm lo hi mx k k)
      | none => none
    | _ => match arrT T t with
      | some (k, _, sz) => sliceP h a sz (bounds tm lo hi mx k k)
      | none => none
  | _ => none

def oFieldAddr (T : Tbl) (s f : Nat) : Option Value → Option Value
  | some (.pointer (some a)) => match fieldOff T s f with
    | some off => addP a off
    | none => none
  | _ => none
def oField (T : Tbl) (s f : Nat) : Option Value → Option Value
  | some (.agg cs) => match fieldT T s f with
    | some (t, off) => partA T t cs.toList off
    | none => none
  | _ => none
def oIndexAddr (T : Tbl) (t : Nat) : Option Value → Option Value → Option Value
  | some (.slice (some a) len _), some i => match elemT T t, natOf i with
    | some (_, sz, _), some i => match Nat.blt i len with
      | true => addP a (Nat.mul i sz)
      | false => none
    | _, _ => none
  | some (.pointer (some a)), some i => match arrT T t, natOf i with
    | some (len, _, sz), some i => match Nat.blt i len with
      | true => addP a (Nat.mul i sz)
      | false => none
    | _, _ => none
  | _, _ => none
def oIndex (T : Tbl) (t : Nat) : Option Value → Option Value → Option Value
  | some (.agg cs), some i => match arrT T t, natOf i with
    | some (len, e, sz), some i => match Nat.blt i len with
      | true => partA T e cs.toList (Nat.mul i sz)
      | false => none
    | _, _ => none
  | some (.string s), some i => match natOf i with
    | some i => match descT T t with
      | some .string => match s[i]? with
        | some b => nat! b.toNat fun n => some (.int .u8 (.ofNat n))
        | none => none
      | _ => none
    | none => none
  | _, _ => none

/-! maps: keys of integers, or of structs of integers -/
def keyEqs : List Value → List Value → Option Bool
  | [], [] => some true
  | .int k a :: r, .int k' b :: s => match kindEq k k' with
    | true => match eqI a b with
      | true => keyEqs r s
      | false => match keyEqs r s with
        | some _ => some false
        | none => none
    | false => none
  | _, _ => none
def keyEq : Value → Value → Option Bool
  | .agg a, .agg b => keyEqs a.toList b.toList
  | .int k a, .int l b => match kindEq k l with
    | true => some (eqI a b)
    | false => none
  | _, _ => none
def mapFind (k : Value) : List (Value × Value) → Option (Option Value)
  | [] => some none
  | (k', v) :: r => match keyEq k k' with
    | some true => some (some v)
    | some false => mapFind k r
    | none => none
def mapPut (k v : Value) : List (Value × Value) → Option (List (Value × Value))
  | [] => some [(k, v)]
  | (k', v') :: r => match keyEq k k' with
    | some true => some ((k, v) :: r)
    | some false => match mapPut k v r with
      | some s => some ((k', v') :: s)
      | none => none
    | none => none
def zeroV (T : Tbl) (t : Nat) : Option Value := match T.ty t with
  | some i => match i.agg with
    | true => some (.agg ⟨i.zero⟩)
    | false => getL i.zero 0
  | none => none
def mapT (T : Tbl) (t : Nat) : Option (Nat × Nat) := match descT T t with
  | some (.map k e) => some (k, e)
  | _ => none
def allInt : List Value → Bool
  | [] => true
  | .int _ _ :: r => allInt r
  | _ => false
def keyOkT (T : Tbl) (k : Nat) : Value → Bool
  | .int _ _ => match descT T k with
    | some (.int _) => true
    | _ => false
  | .agg cs => match T.key k with
    | some nf => Nat.beq (lenL cs.toList 0) nf && allInt cs.toList
    | none => false
  | _ => false
def oLookup (T : Tbl) (t : Nat) (ok : Bool) (h : Heap) : Option Value → Option Value → Option Value
  | some (.map (some r)), some k => match mapT T t, Tr.get h r with
    | some (kt, e), some (.map es) => match keyOkT T kt k, mapFind k es with
      | true, some (some v) => some (bif ok then .tuple ⟨[v, .bool true]⟩ else v)
      | true, some none => match zeroV T e with
        | some z => some (bif ok then .tuple ⟨[z, .bool false]⟩ else z)
        | none => none
      | _, _ => none
    | _, _ => none
  | _, _ => none
def oMapUpdate (T : Tbl) (t : Nat) (h : Heap) : Option Value → Option Value → Option Value → Option Heap
  | some (.map (some r)), some k, some v => match mapT T t, Tr.get h r with
    | some (kt, _), some (.map es) => match keyOkT T kt k, mapPut k v es with
      | true, some es => hput h r (.map es)
      | _, _ => none
    | _, _ => none
  | _, _, _ => none

def isIface (T : Tbl) (t : Nat) : Bool := match descT T t with
  | some (.interface _) => true
  | some _ => false
  | none => true
def oAssert (T : Tbl) (t : Nat) (ok : Bool) : Option Value → Option Value
  | some (.iface u v) => match isIface T t, Nat.beq u t with
    | false, true => some (bif ok then .tuple #[v, .bool true] else v)
    | _, _ => none
  | _ => none
def oExtract (i : Nat) : Option Value → Option Value
  | some (.tuple vs) => getL vs.toList i
  | _ => none

/-! builtins -/
def oLen (T : Tbl) (t : Nat) (x : Value) : Option Value := match descT T t with
  | some .string => match x with
    | .string s => nat! s.size fun n => some (.int .i64 (.ofNat n))
    | _ => none
  | some (.array n _) => some (.int .i64 (.ofNat n))
  | some (.slice _) => match x with
    | .slice _ n _ => some (.int .i64 (.ofNat n))
    | _ => none
  | _ => none
def maxA : Value → List Value → Option Value
  | v, [] => some v
  | .int k x, .int _ y :: r => match ltI x y with
    | true => maxA (.int k y) r
    | false => maxA (.int k x) r
  | _, _ => none
def minA : Value → List Value → Option Value
  | v, [] => some v
  | .int k x, .int _ y :: r => match ltI y x with
    | true => minA (.int k y) r
    | false => minA (.int k x) r
  | _, _ => none

/-- what append adds: how many elements, their cells -/
def addedA (T : Tbl) (xt sz : Nat) (x : Value) (h : Heap) : Option (Nat × List Value) := match descT T xt with
  | some (.int _) => none
  | none => none
  | some _ => match x with
    | .slice none l _ => match l with
      | 0 => some (0, [])
      | _ => none
    | .slice (some a) l _ => match loadN h a (Nat.mul l sz) with
      | some cs => some (l, cs)
      | none => none
    | .string b => match Nat.beq sz 1 with
      | true => some (b.size, b.data.toList.map fun c => .int .u8 c.toNat)
      | false => none
    | _ => none
def appendA (T : Tbl) (st xt : Nat) (h : Heap) (n : Nat) : Value → Value → Option AR
  | .slice base sLen sCap, x => match elemT T st with
    | some (e, sz, by') => match addedA T xt sz x h with
      | some (nx, new) => nat! (Nat.add sLen nx) fun need => match not (Nat.beq sz 0) && (Nat.ble need 1000000 && Nat.ble by' 1000) with
        | true => match Nat.ble need sCap with
          | true => match base with
            | none => match need with
              | 0 => some (.val (.slice none 0 sCap) h n)
              | _ => none
            | some a => match new with
              | [] => some (.val (.slice base need sCap) h n)
              | _ => match addA a (Nat.mul sLen sz) with
                | some b => match storeN h b new with
                  | some h => some (.val (.slice base need sCap) h n)
                  | none => none
                | none => none
          | false => match base with
            | none => match sLen with
              | 0 => newA h n (.cells e new (some sz) false) (.slice (some ⟨n, 0, none⟩) need need)
              | _ => none
            | some a => match loadN h a (Nat.mul sLen sz) with
              | some old => match Tr.get h a.block with
                | some (.cells el _ (some s') false) => match Nat.beq s' sz && (Nat.beq el e && cellsOk new), hdel h a.block with
                  | true, some h => newA h n (.cells e (catL old new) (some sz) false) (.slice (some ⟨n, 0, none⟩) need need)
                  | _, _ => none
                | some (.cells _ _ none _) => newA h n (.cells e (catL old new) (some sz) false) (.slice (some ⟨n, 0, none⟩) need need)
                | _ => none
              | none => none
        | false => none
      | none => none
    | none => none
  | _, _ => none
def ptrElem (T : Tbl) (t : Nat) : Option Nat := match descT T t with
  | some (.pointer u) => some u
  | _ => none
def oUnsafeString (T : Tbl) (pt : Nat) (h : Heap) (n : Nat) : Value → Value → Option AR
  | .pointer p, l => match natOf l with
    | some 0 => some (.val (.string .empty) h n)
    | some l => match p with
      | some ⟨b, off, none⟩ => match ptrElem T pt, Tr.get h b with
        | some u, some (.cells el cs fx false) => match Nat.beq el u, sizeT T u with
          | true, some 1 => match cellsAt cs off l with
            | some bs => match bytesOf bs, hput h b (.cells el cs fx true) with
              | some bs, some h => bif Nat.blt l 1000000 then some (.val (.string ⟨⟨bs⟩⟩) h n) else none
              | _, _ => none
            | none => none
          | _, _ => none
        | _, _ => none
      | _ => none
    | none => none
  | _, _ => none
def oSliceData : Value → Option Value
  | .slice none _ _ => some (.pointer none)
  | .slice (some a) _ (_ + 1) => some (.pointer (some a))
  | _ => none
def oBuiltin (T : Tbl) (b : Builtin) (ts : List Nat) (h : Heap) (n : Nat) : List Value → Option AR
  | args => match b with
    | .len => match args, ts with
      | [x], t :: _ => valA h n (oLen T t x)
      | _, _ => none
    | .append => match args, ts with
      | [s, x], [st, xt] => appendA T st xt h n s x
      | _, _ => none
    | .max => match args with
      | x :: r => valA h n (maxA x r)
      | _ => none
    | .min => match args with
      | x :: r => valA h n (minA x r)
      | _ => none
    | .unsafeSliceData => match args with
      | [x] => valA h n (oSliceData x)
      | _ => none
    | .unsafeString => match args, ts with
      | [p, l], pt :: _ => oUnsafeString T pt h n p l
      | _, _ => none
    | _ => none

def enterA (args : List Value) : Option Value → Option AR
  | some (.func (.func g) first captured) => some (.enter g (catL first.toList (catL args captured.toList)))
  | _ => none
def oCall (T : Tbl) (c : Go.Call) (tm : Tmps) (h : Heap) (n : Nat) : Option AR := match evs tm c.args.toList with
  | some args => match c.callee with
    | .value f => enterA args (ev tm f)
    | .builtin b => oBuiltin T b c.argTypes.toList h n args
    | .invoke .. => none
  | none => none

def recvT (T : Tbl) (t : Nat) : Option Value := match descT T t with
  | some (.chan _ e) => zeroV T e
  | _ => none
def oRecv (T : Tbl) (t : Nat) (ok : Bool) : Option Value → Option AR
  | some (.chan (some c)) => match T.main, recvT T t with
    | true, some z => some (.recv ok z c)
    | _, _ => none
  | _ => none
def oSend (T : Tbl) : Option Value → Option Value → Option AR
  | some (.chan (some c)), some v => match T.main, afree v with
    | false, true => some (.send c v)
    | _, _ => none
  | _, _ => none
def funcV (f : Fn) : Option (List Value) → Option (List Value) → Option Value
  | some a, some b => match f with
    | .func g => some (.func (.func g) ⟨a⟩ ⟨b⟩)
    | _ => none
  | _, _ => none
def ifaceV (T : Tbl) (t : Nat) : Option Value → Option Value
  | some v => match isIface T t with
    | true => none
    | false => some (.iface t v)
  | none => none
def boxA (h : Heap) (n t : Nat) : Option Value → Option AR
  | some v => newA h n (.cells t (vcells v) none false) (.pointer (some ⟨n, 0, none⟩))
  | none => none
def allocA (h : Heap) (n t : Nat) : Option (List Value) → Option AR
  | some z => newA h n (.cells t z none false) (.pointer (some ⟨n, 0, none⟩))
  | none => none

/-- a method's function, and the type and place of the field that is handed on as the receiver (none: the pointer itself) -/
def methodA (P : Program) (T : Tbl) (t : Nat) (name : String) : Option (Nat × Option (Nat × Nat)) := match P.info? t with
  | some i => match i.methods.find? (·.name == name) with
    | some m => match m.path.toList, m.func with
      | [], some (f, true) => match ptrElem T t with
        | some _ => some (f, none)
        | none => none
      | [s], some (f, false) => match s.deref with
        | true => match fieldT T s.struct s.index with
          | some (ft, off) => match sizeT T ft, ptrElem T ft with
            | some (_ + 1), none => some (f, some (ft, off))
            | _, _ => none
          | none => none
        | false => none
      | _, _ => none
    | none => none
  | none => none
def invokeA (P : Program) (T : Tbl) (name : String) (h : Heap) (args : List Value) : Option Value → Option AR
  | some (.iface t v) => match methodA P T t name with
    | some (f, none) => some (.enter f (v :: args))
    | some (f, some (ft, off)) => match v with
      | .pointer (some a) => match addA a off with
        | some a => match loadT T h ft a with
          | some r => some (.enter f (r :: args))
          | none => none
        | none => none
      | _ => none
    | none => none
  | _ => none

/-- an operation, as far as its text tells it: so that the text is looked at once -/
inductive OpC where
  | mk (f : Tmps → Heap → Nat → Option AR)

def opC (P : Program) (T : Tbl) (op : Op) : OpC :=
  match op with
  | .move x => .mk fun tm h n => valA h n (ev tm x)
  | .assign x => .mk fun tm h n => valA h n (ev tm x)
  | .pick c a b => .mk fun tm h n => valA h n (oPick tm c a b)
  | .alloc t => .mk fun _ h n => allocA h n t (zeroT T t)
  | .box t x => .mk fun tm h n => boxA h n t (ev tm x)
  | .build t ps => .mk fun tm h n => valA h n (oBuild T tm t ps.toList)
  | .buildSlice t l ps => .mk fun tm h n => oBuildSlice T tm t l ps.toList h n
  | .load t a => .mk fun tm h n => valA h n (oLoad T t h (ev tm a))
  | .store t a x => .mk fun tm h n => skipA n (oStore T t h (ev tm a) (ev tm x))
  | .nilCheck x => .mk fun tm h n => valA h n (oNilCheck (ev tm x))
  | .binOp op t x y _ => .mk fun tm h n => valA h n (oBin P T op t (ev tm x) (ev tm y))
  | .unOp op _ x => .mk fun tm h n => valA h n (oUn P op (ev tm x))
  | .convert s d x => .mk fun tm h n => valA h n (oConv T s d h (ev tm x))
  | .makeInterface t x => .mk fun tm h n => valA h n (ifaceV T t (ev tm x))
  | .makeFunc f a b => .mk fun tm h n => valA h n (funcV f (evs tm a.toList) (evs tm b.toList))
  | .makeMap _ none => .mk fun _ h n => newA h n (.map []) (.map (some n))
  | .makeSlice t l c => .mk fun tm h n => oMakeSlice T t h n (ev tm l) (ev tm c)
  | .slice t x lo hi mx => .mk fun tm h n => valA h n (oSlice T tm t lo hi mx h (ev tm x))
  | .fieldAddr s x f => .mk fun tm h n => valA h n (oFieldAddr T s f (ev tm x))
  | .field s x f => .mk fun tm h n => valA h n (oField T s f (ev tm x))
  | .indexAddr t x i => .mk fun tm h n => valA h n (oIndexAddr T t (ev tm x) (ev tm i))
  | .index t x i => .mk fun tm h n => valA h n (oIndex T t (ev tm x) (ev tm i))
  | .lookup t x k ok => .mk fun tm h n => valA h n (oLookup T t ok h (ev tm x) (ev tm k))
  | .mapUpdate t m k v => .mk fun tm h n => skipA n (oMapUpdate T t h (ev tm m) (ev tm k) (ev tm v))
  | .typeAssert x _ t ok => .mk fun tm h n => valA h n (oAssert T t ok (ev tm x))
  | .extract x i => .mk fun tm h n => valA h n (oExtract i (ev tm x))
  | .call c => match c.callee with
    | .invoke rc name => .mk fun tm h _ => match evs tm c.args.toList with
      | some as => invokeA P T name h as (ev tm rc)
      | none => none
    | _ => .mk fun tm h n => oCall T c tm h n
  | .recv t c ok => .mk fun tm _ _ => oRecv T t ok (ev tm c)
  | .send c x => .mk fun tm _ _ => oSend T (ev tm c) (ev tm x)
  | .makeChan t x => .mk fun tm h n => oMakeChan T t h n (ev tm x)
  | _ => .mk fun _ _ _ => none

end Go.Det
