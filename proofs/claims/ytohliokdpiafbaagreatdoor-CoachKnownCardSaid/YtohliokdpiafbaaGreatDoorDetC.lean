/- A part of the evaluator, or one closed fact about it. Conditions: none beyond what each theorem states. -/
import Derived.Test.YtohliokdpiafbaaGreatDoorDetB
set_option linter.unusedVariables false
namespace Go.Det

/-! ### the evaluator of a frame -/

/-- Equality of values as far as it is told. -/
def veq1 : Value → Value → Bool
  | .bool a, .bool b => a == b
  | .int k a, .int l b => kindEq k l && eqI a b
  | .string a, .string b => a == b
  | .pointer none, .pointer none => true
  | .pointer (some a), .pointer (some b) => a == b
  | .slice none a b, .slice none c d => Nat.beq a c && Nat.beq b d
  | .slice (some x) a b, .slice (some y) c d => x == y && (Nat.beq a c && Nat.beq b d)
  | .map a, .map b => a == b
  | .chan a, .chan b => a == b
  | .nilFunc, .nilFunc => true
  | .nilIface, .nilIface => true
  | _, _ => false
def veqs : List Value → List Value → Bool
  | [], [] => true
  | a :: r, b :: s => match veq1 a b with
    | true => veqs r s
    | false => false
  | _, _ => false
def veq : Value → Value → Bool
  | .agg a, .agg b => veqs a.toList b.toList
  | a, b => veq1 a b

def resV (T : Tbl) (h : Heap) (tm : Tmps) : ResultVar → Option Value
  | .tmp t => tm.get t
  | .cell a t => oLoad T t h (tm.get a)
def resVs (T : Tbl) (h : Heap) (tm : Tmps) : List ResultVar → Option (List Value)
  | [] => some []
  | x :: r => match resV T h tm x with
    | none => none
    | some v => match resVs T h tm r with
      | none => none
      | some s => some (v :: s)
def resultsA (T : Tbl) (rs : List ResultVar) (tm : Tmps) (h : Heap) : Option Value := match resVs T h tm rs with
  | some [v] => some v
  | some vs => some (.tuple ⟨vs⟩)
  | none => none

/-- what an operation comes to: the value that is laid down -/
abbrev CallA := Nat → List Value → Heap → Nat → Option (Value × Heap × Nat)

def recvA (ok : Bool) (z : Value) (c : Nat) (h : Heap) (n : Nat) : Option (Value × Heap × Nat) := match Tr.get h c with
  | some (.pipe (v :: vs)) => match afree v, hput h c (.pipe vs) with
    | true, some h => some (bif ok then .tuple #[v, .bool true] else v, h, n)
    | _, _ => none
  | some (.pipe []) => match hdel h c with
    | some h => some (bif ok then .tuple #[z, .bool false] else z, h, n)
    | none => none
  | _ => none

def sendA (c : Nat) (v : Value) (h : Heap) (n : Nat) : Option (Value × Heap × Nat) := match Tr.get h c with
  | some (.pipe (u :: us)) => match veq u v with
    | true => match hput h c (.pipe us) with
      | some h => some (.tuple #[], h, n)
      | none => none
    | false => none
  | _ => none

def uponA (call : CallA) (h : Heap) (n : Nat) : Option AR → Option (Value × Heap × Nat)
  | some (.val v h n) => some (v, h, n)
  | some (.skip h n) => some (.tuple #[], h, n)
  | some (.enter f as) => call f as h n
  | some (.recv ok z c) => recvA ok z c h n
  | some (.send c v) => sendA c v h n
  | none => none

/-- the value of a guard's operation (none: a guard that is no such thing) -/
def guardT (all : List Oper) (o : Oper) : Option (Option (Nat × Bool)) := match o.guard with
  | none => some none
  | some (j, w) => match getL all j with
    | some oj => match oj.dst with
      | some d => some (some (d, w))
      | none => none
    | none => none
def wantA (g : Option (Nat × Bool)) (tm : Tmps) : Option Bool := match g with
  | none => some true
  | some (d, w) => match tm.get d with
    | some v => match v with
      | .bool b => match b with
        | true => some w
        | false => some (not w)
      | _ => some false
    | none => none

/-- laid down, within the frame -/
def putA (nt : Nat) (d : Option Nat) (tm : Tmps) (v : Value) : Option Tmps := match d with
  | some d => match Nat.blt d nt with
    | true => some (.cons d v tm)
    | false => none
  | none => some tm

abbrev R3 := Option (Tmps × Heap × Nat)

def laidA (nt : Nat) (d : Option Nat) (tm : Tmps) : Option (Value × Heap × Nat) → R3
  | some (v, h, n) => match putA nt d tm v with
    | some tm => some (tm, h, n)
    | none => none
  | none => none
def skippedA (nt : Nat) (d : Option Nat) (tm : Tmps) (h : Heap) (n : Nat) : R3 := match putA nt d tm (.tuple #[]) with
  | some tm => some (tm, h, n)
  | none => none

/-- an operation of a region, whole -/
inductive OC where
  | mk (f : CallA → Tmps → Heap → Nat → R3)

def ocG (g : Option (Nat × Bool)) (nt : Nat) (d : Option Nat) : OpC → OC
  | .mk f => match g with
    | none => .mk fun call tm h n => laidA nt d tm (uponA call h n (f tm h n))
    | some g => .mk fun call tm h n => match wantA (some g) tm with
      | some true => laidA nt d tm (uponA call h n (f tm h n))
      | some false => skippedA nt d tm h n
      | none => none
def oc (P : Program) (T : Tbl) (nt : Nat) (all : List Oper) (o : Oper) : OC := match guardT all o with
  | some g => ocG g nt o.dst (opC P T o.op)
  | none => .mk fun _ _ _ _ => none

/-- the operations of a region, in the order of the text -/
def aOps (P : Program) (T : Tbl) (call : CallA) (nt : Nat) (all : List Oper) : List Oper → Tmps → Heap → Nat → R3
  | [], tm, h, n => some (tm, h, n)
  | o :: r, tm, h, n => match oc P T nt all o with
    | .mk f => match f call tm h n with
      | some (tm, h, n) => aOps P T call nt all r tm h n
      | none => none

/-! regions that draw -/
def inL (t : Nat) : List Nat → Bool
  | [] => false
  | x :: r => match Nat.beq x t with
    | true => true
    | false => inL t r
def opdsOf : List Operand → List Nat
  | [] => []
  | .tmp t :: r => t :: opdsOf r
  | _ :: r => opdsOf r
inductive Cls where
  | p | l | a | s | c
  deriving DecidableEq

/-- p: from the temporaries alone; l: reads memory; a: a new block, from the temporaries alone; s: writes; c: anything -/
def cls (T : Tbl) (op : Op) : Cls :=
  match op with
  | .load .. | .slice .. | .lookup .. => .l
  | .alloc _ | .box .. | .buildSlice .. | .makeSlice .. | .makeMap .. => .a
  | .store .. | .mapUpdate .. => .s
  | .move _ | .assign _ | .pick .. | .build .. | .nilCheck _ | .binOp .. | .unOp .. | .makeInterface .. | .makeFunc .. | .fieldAddr .. | .field .. | .indexAddr .. | .index .. | .typeAssert .. | .extract .. => .p
  | .convert s d _ => match convT T s d with
    | .ints _ | .str | .rune => .p
    | .bytes | .ptr _ | .raw _ => .l
    | .other => .c
  | .call c => match c.callee with
    | .builtin .len | .builtin .max | .builtin .min | .builtin .unsafeSliceData => .p
    | _ => .c
  | _ => .c

def bindsAny (e : Edge) : Bool := match e.ground with
  | .textOnly _ | .gcOnly _ => false
  | _ => true

def bitAt (m i : Nat) : Bool := Nat.beq (Nat.mod (Nat.shiftRight m i) 2) 1

def preOf (ms : List Nat) : List Edge → Nat
  | [] => 0
  | e :: r => bif bindsAny e then Nat.lor (Nat.lor (Nat.shiftLeft 1 e.on) (ms.getD e.on 0)) (preOf ms r) else preOf ms r
/-- of each operation the set of those that stand before it in every order -/
def pres : List Oper → List Nat → List Nat
  | [], ms => ms
  | o :: r, ms => pres r (ms ++ [preOf ms o.after.toList])

/-- may two operations, neither of which stands before the other, come up in either order? some true: if they do not disturb one another -/
def may : Cls → Cls → Option Bool
  | .p, _ | _, .p => some false
  | .l, .l | .l, .a | .a, .l | .a, .a => some false
  | .a, .s | .s, .a | .a, .c | .c, .a | .l, .s | .s, .l | .l, .c | .c, .l => some true
  | _, _ => none

def pairsAt (m : Nat) (j : Nat) (cj : Cls) : List Cls → Nat → Option (List (Nat × Nat))
  | [], _ => some []
  | ci :: r, i =>
    match Nat.beq i j with
    | true => some []
    | false => match bitAt m i with
      | true => pairsAt m j cj r (i + 1)
      | false => match may ci cj with
        | none => none
        | some false => pairsAt m j cj r (i + 1)
        | some true => match pairsAt m j cj r (i + 1) with
          | some l => some ((i, j) :: l)
          | none => none
def pairsAll (cs : List Cls) (ms : List Nat) : List Cls → Nat → Option (List (Nat × Nat))
  | [], _ => some []
  | cj :: r, j => match pairsAt (ms.getD j 0) j cj cs 0, pairsAll cs ms r (j + 1) with
    | some a, some b => some (a ++ b)
    | _, _ => none

/-- the temporaries that an operation, or its guard, reads -/
def namesOf (all : List Oper) (o : Oper) : List Nat := (match guardT all o with | some (some (d, _)) => [d] | _ => []) ++ opdsOf o.op.operands.toList
/-- each operation's temporaries: whoever writes one stands before or behind whoever reads or writes it -/
def ordered (ms : List Nat) (i j : Nat) : Bool := Nat.beq i j || (bitAt (ms.getD j 0) i || bitAt (ms.getD i 0) j)
def tmpsOkAt (ms : List Nat) (all : List Oper) (i d : Nat) : List Oper → Nat → Bool
  | [], _ => true
  | o :: r, j => (bif (o.dst == some d) || inL d (namesOf all o) then ordered ms i j else true) && tmpsOkAt ms all i d r (j + 1)
def tmpsOk (ms : List Nat) (all : List Oper) : List Oper → Nat → Bool
  | [], _ => true
  | o :: r, i => (match o.dst with | some d => tmpsOkAt ms all i d all 0 | none => true) && tmpsOk ms all r (i + 1)
def backOk : List Oper → Nat → Bool
  | [], _ => true
  | o :: r, i => (o.after.toList.all fun e => !bindsAny e || Nat.blt e.on i) && backOk r (i + 1)

def drawPairs (T : Tbl) (ops : List Oper) : Option (List (Nat × Nat)) :=
  match tmpsOk (pres ops []) ops ops 0 && backOk ops 0 with
  | true => pairsAll (ops.map fun o => cls T o.op) (pres ops []) (ops.map fun o => cls T o.op) 0
  | false => none

/-- what is kept of an operation: how a value was read; which block was laid; the heap ahead and behind of what may write -/
inductive Log where
  | none
  | read (f : Tmps → Heap → Nat → Option AR) (tm : Tmps) (v : Value)
  | alloc (i : Nat) (o : AObj)
  | heavy (h h' : Heap)

/-- .. with the log -/
def opLog (P : Program) (T : Tbl) (o : Oper) (tm : Tmps) (h : Heap) (n : Nat) (h' : Heap) : Log := match cls T o.op with
  | .p => .none
  | .l => match opC P T o.op with
    | .mk f => match f tm h n with
      | some (.val v _ _) => .read f tm v
      | _ => .none
  | .a => match Tr.get h' n with
    | some ob => .alloc n ob
    | none => .none
  | .s | .c => .heavy h h'
def ocLog (P : Program) (T : Tbl) (all : List Oper) (o : Oper) (tm : Tmps) (h : Heap) (n : Nat) (h' : Heap) : Log := match guardT all o with
  | some g => match wantA g tm with
    | some true => opLog P T o tm h n h'
    | _ => .none
  | none => .none
def aOpsD (P : Program) (T : Tbl) (call : CallA) (nt : Nat) (all : List Oper) : List Oper → Tmps → Heap → Nat → List Log → Option (Tmps × Heap × Nat × List Log)
  | [], tm, h, n, l => some (tm, h, n, l)
  | o :: r, tm, h, n, l => match oc P T nt all o with
    | .mk f => match f call tm h n with
      | some (tm', h', n') => aOpsD P T call nt all r tm' h' n' (catL l [ocLog P T all o tm h n h'])
      | none => none

def reread (f : Tmps → Heap → Nat → Option AR) (tm : Tmps) (h : Heap) (v : Value) : Bool := match f tm h 0 with
  | some (.val u _ _) => veq u v
  | _ => false
def fxEq : Option Nat → Option Nat → Bool
  | none, none => true
  | some a, some b => Nat.beq a b
  | _, _ => false
def aeq : AObj → AObj → Bool
  | .cells e cs fx ro, .cells e' cs' fx' ro' => Nat.beq e e' && (veqs cs cs' && (fxEq fx fx' && (ro == ro')))
  | .map es, .map es' => match es, es' with
    | [], [] => true
    | _, _ => false
  | _, _ => false

def pairOk (i j : Log) : Bool := match i, j with
  | .read f tm v, .heavy _ h' => reread f tm h' v
  | .heavy h _, .read f tm v => reread f tm h v
  | .alloc i o, .heavy _ h' => match Tr.get h' i with
    | some o' => aeq o o'
    | none => false
  | .heavy _ _, .alloc _ _ => true
  | .none, _ | _, .none => true
  | _, _ => false

def pairsOk (l : List Log) : List (Nat × Nat) → Bool
  | [] => true
  | (i, j) :: r => match pairOk (l.getD i .none) (l.getD j .none) with
    | true => pairsOk l r
    | false => false

def aRegion (P : Program) (T : Tbl) (call : CallA) (nt : Nat) (ops : List Oper) (draw : Bool) (tm : Tmps) (h : Heap) (n : Nat) : Option (Tmps × Heap × Nat) :=
  match draw with
  | true => match drawPairs T ops with
    | none => none
    | some [] => aOps P T call nt ops ops tm h n
    | some ps => match aOpsD P T call nt ops ops tm h n [] with
      | some (tm, h, n, l) => match pairsOk l ps with
        | true => some (tm, h, n)
        | false => none
      | none => none
  | false => aOps P T call nt ops ops tm h n

/-- a call that is told by something else than its text -/
abbrev Sp := Nat → List Value → Heap → Nat → Option (Option (Value × Heap × Nat))

/-- the arguments in their places -/
def initT : List Value → Nat → Tmps
  | [], _ => .nil
  | v :: r, i => .cons i v (initT r (Nat.succ i))

/-! what is kept of a frame's temporaries behind a region: those that some region reads before it writes them, a test or the results read. (What is let go is merely no longer known.) -/
def freeOps : List Oper → List Nat → List Nat → List Nat
  | [], _, acc => acc
  | o :: r, w, acc =>
    let fr := (opdsOf o.op.operands.toList).filter fun t => not (inL t w) && not (inL t acc)
    freeOps r (match o.dst with | some d => d :: w | none => w) (fr ++ acc)
def freeCode : Code → List Nat → List Nat
  | .region _ ops _, acc => freeOps ops.toList [] acc
  | .seq a b, acc => freeCode b (freeCode a acc)
  | .cond c a b, acc => freeCode b (freeCode a (opdsOf [c] ++ acc))
  | .block _ b, acc | .loop b, acc | .scope b, acc => freeCode b acc
  | _, acc => acc
def resTmps : List ResultVar → List Nat
  | [] => []
  | .tmp t :: r => t :: resTmps r
  | .cell t _ :: r => t :: resTmps r
def maskOf : List Nat → Nat
  | [] => 0
  | t :: r => Nat.lor (Nat.shiftLeft 1 t) (maskOf r)
inductive KC where
  | mk (m : Nat)
def keepOf (fn : Func) : KC := match fn.body with
  | some b => match maskOf (freeCode b (resTmps fn.results.toList)) with
    | 0 => .mk 0
    | m + 1 => .mk (Nat.succ m)
  | none => .mk 0
def keepT (m : Nat) : Tmps → Tmps → Tmps
  | .nil, acc => acc
  | .cons k v r, acc => match bitAt m k with
    | true => keepT m r (.cons k v acc)
    | false => keepT m r acc
def dedup : Tmps → Tmps → Tmps
  | .nil, acc => acc
  | .cons k v r, acc => dedup r (.cons k v (acc.del k))
/-- the latest ones, once each -/
def trimT (m : Nat) (tm : Tmps) : Tmps := dedup (keepT m tm .nil) .nil

structure FnI where
  nt : Nat
  keep : Nat

abbrev RunA := FnI → List Item → Tmps → Heap → Nat → R3

def bodyR (T : Tbl) (rs : List ResultVar) : R3 → Option (Value × Heap × Nat)
  | some (tm, h, n) => match resultsA T rs tm h with
    | some v => some (v, h, n)
    | none => none
  | none => none
def bodyA (T : Tbl) (run : RunA) (fn : Func) (args : List Value) (h : Heap) (n : Nat) : Option (Value × Heap × Nat) := match fn.body with
  | none => none
  | some b => match Nat.ble (lenL args 0) fn.ntmps with
    | true => match keepOf fn with
      | .mk m => bodyR T fn.results.toList (run ⟨fn.ntmps, m⟩ [.code b] (initT args 0) h n)
    | false => none
def callA (T : Tbl) (sp : Sp) (run : RunA) (g : Nat) (args : List Value) (h : Heap) (n : Nat) : Option (Value × Heap × Nat) :=
  match sp g args h n with
  | some r => r
  | none => match T.fn g with
    | none => none
    | some fn => bodyA T run fn args h n

def thenA (run : RunA) (fn : FnI) (k : List Item) : R3 → R3
  | some (tm, h, n) => run fn k (trimT fn.keep tm) h n
  | none => none
def condA (run : RunA) (fn : FnI) (a b : Code) (k : List Item) (tm : Tmps) (h : Heap) (n : Nat) : Option Value → R3
  | some (.bool true) => run fn (.code a :: k) tm h n
  | some (.bool false) => run fn (.code b :: k) tm h n
  | _ => none
def exitA (run : RunA) (fn : FnI) (tm : Tmps) (h : Heap) (n : Nat) : Option (List Item) → R3
  | some k => run fn k tm h n
  | none => none

inductive StC where
  | mk (f : RunA → FnI → List Item → Tmps → Heap → Nat → R3)
def codeC (P : Program) (T : Tbl) (sp : Sp) (c : Code) : StC := match c with
  | .ret => .mk fun _ _ _ tm h n => some (tm, h, n)
  | .skip => .mk fun run fn k tm h n => run fn k tm h n
  | .seq a b => .mk fun run fn k tm h n => run fn (.code a :: .code b :: k) tm h n
  | .cond c a b => .mk fun run fn k tm h n => condA run fn a b k tm h n (ev tm c)
  | .block id b => .mk fun run fn k tm h n => run fn (.code b :: .inBlock id :: k) tm h n
  | .loop b => .mk fun run fn k tm h n => run fn (.code b :: .inLoop b :: k) tm h n
  | .scope b => .mk fun run fn k tm h n => run fn (.code b :: .inScope b :: k) tm h n
  | .exit id => .mk fun run fn k tm h n => exitA run fn tm h n (exitTo id k)
  | .region _ ops draw => .mk fun run fn k tm h n => thenA run fn k (aRegion P T (callA T sp run) fn.nt ops.toList draw tm h n)
  | _ => .mk fun _ _ _ _ _ _ => none

def stepA (P : Program) (T : Tbl) (sp : Sp) (run : RunA) (fn : FnI) (todo : List Item) (tm : Tmps) (h : Heap) (n : Nat) : R3 :=
  match todo with
  | [] => some (tm, h, n)
  | i :: k => match i with
    | .code c => match codeC P T sp c with
      | .mk f => f run fn k tm h n
    | .inBlock _ => run fn k tm h n
    | .inScope _ => run fn k tm h n
    | .inLoop b => run fn (.code b :: .inLoop b :: k) tm h n
    | _ => none

def aRun (P : Program) (T : Tbl) (sp : Sp) : Nat → RunA
  | 0 => fun _ _ _ _ _ => none
  | f + 1 => stepA P T sp (aRun P T sp f)

def aCall (P : Program) (T : Tbl) (sp : Sp) (f g : Nat) (args : List Value) (h : Heap) (n : Nat) : Option (Value × Heap × Nat) := callA T sp (aRun P T sp f) g args h n

end Go.Det
