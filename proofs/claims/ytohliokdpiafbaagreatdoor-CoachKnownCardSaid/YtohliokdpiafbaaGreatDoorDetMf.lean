/- The tables of this program hold, and its row follows from one closed fact. Conditions: none beyond what each theorem states. -/
import Derived.Test.YtohliokdpiafbaaGreatDoorDetT
import Derived.Test.YtohliokdpiafbaaGreatDoorDetMa
import Derived.KernelRfl
import Derived.Test.YtohliokdpiafbaaGreatDoorDetMe
import Derived.Conc.LeavingOf
import Derived.OpenShut
import Derived.LaidMore
import Derived.Lay
import Derived.LaidOnce
import Derived.Test.YtohliokdpiafbaaGreatDoorDetC3
import Derived.Test.YtohliokdpiafbaaGreatDoorRows
import Derived.Test.YtohliokdpiafbaaGreatDoorTie
import Derived.SevenTiedAt
import Derived.MakeChecks
import Derived.ChangeSame
import Derived.RowKit
import Derived.JoinedOf
set_option linter.unusedVariables false
set_option linter.unusedSimpArgs false
set_option linter.unusedSectionVars false
set_option linter.constructorNameAsVariable false
set_option maxRecDepth 100000
namespace Go.Det
open Go.Proofs

/-! ### what a trie holds, in a row -/
def Tr.rows {α : Type} : Tr α → Nat → Nat → List (Nat × α)
  | .leaf, _, _ => []
  | .node v a b c d, k, s => (match v with | some x => [(k, x)] | none => []) ++ (a.rows (k + s) (4 * s) ++ (b.rows (k + 2 * s) (4 * s) ++ (c.rows (k + 3 * s) (4 * s) ++ d.rows (k + 4 * s) (4 * s))))
theorem Tr.rows_get {α : Type} : ∀ (t : Tr α) (k s n : Nat) (x : α), t.get n = some x → (k + s * n, x) ∈ t.rows k s
  | .leaf, _, _, n, x, h => by rw [Tr.get_leaf] at h; cases h
  | .node v a b c d, k, s, n, x, h => by
    unfold Tr.rows
    cases n with
    | zero =>
      have : v = some x := h
      subst this
      simp
    | succ m =>
      have hm : m = 4 * (m / 4) + m % 4 := by omega
      have e : ∀ j, k + j * s + 4 * s * (m / 4) = k + s * (4 * (m / 4) + j) := fun j => by
        rw [Nat.mul_add, Nat.mul_comm j s, ← Nat.mul_assoc, Nat.mul_comm s 4]; omega
      have h4 : m % 4 < 4 := Nat.mod_lt _ (by omega)
      simp only [Tr.get] at h
      have hmod : Nat.mod m 4 = m % 4 := rfl
      have hdiv : Nat.div m 4 = m / 4 := rfl
      rw [hmod, hdiv] at h
      rcases (show m % 4 = 0 ∨ m % 4 = 1 ∨ m % 4 = 2 ∨ m % 4 = 3 by omega) with h0 | h0 | h0 | h0
      · rw [h0] at h
        have := Tr.rows_get a (k + s) (4 * s) _ _ h
        have q := e 1
        rw [Nat.one_mul] at q
        rw [q, show 4 * (m / 4) + 1 = m + 1 from by omega] at this
        simp [this]
      · rw [h0] at h
        have := Tr.rows_get b (k + 2 * s) (4 * s) _ _ h
        rw [e 2, show 4 * (m / 4) + 2 = m + 1 from by omega] at this
        simp [this]
      · rw [h0] at h
        have := Tr.rows_get c (k + 3 * s) (4 * s) _ _ h
        rw [e 3, show 4 * (m / 4) + 3 = m + 1 from by omega] at this
        simp [this]
      · rw [h0] at h
        have := Tr.rows_get d (k + 4 * s) (4 * s) _ _ h
        rw [e 4, show 4 * (m / 4) + 4 = m + 1 from by omega] at this
        simp [this]
theorem Tr.rows_get0 {α : Type} {t : Tr α} {n : Nat} {x : α} (h : t.get n = some x) : (n, x) ∈ t.rows 0 1 := by
  have := Tr.rows_get t 0 1 n x h
  rwa [Nat.zero_add, Nat.one_mul] at this
theorem map_mem {α β : Type} {f g : α → β} : ∀ {l : List α}, l.map f = l.map g → ∀ x ∈ l, f x = g x
  | [], _, x, h => by cases h
  | y :: l, e, x, h => by
    simp only [List.map_cons, List.cons.injEq] at e
    rcases List.mem_cons.1 h with rfl | h
    · exact e.1
    · exact map_mem e.2 x h
theorem all_mem {α : Type} {p : α → Bool} {l : List α} (h : l.all p = true) : ∀ x ∈ l, p x = true := by simpa using h

def zeroOf (i : TI) : Value := bif i.agg then .agg ⟨i.zero⟩ else i.zero.headD undef
/-- what is asked of a row of the types' table by itself -/
def tiB (i : TI) : Bool := (i.zero.length == i.size) && (afrees i.zero && ((i.agg == isAggD i.desc) && (i.agg || (match i.zero with | [v] => cellOk v | _ => false))))
theorem cellOk_cells {v : Value} (h : cellOk v = true) : vcells v = [v] := by cases v <;> first | rfl | cases h
theorem tyOk_of {P : Program} {t : Nat} {i : TI} (hb : tiB i = true) (hi : (P.info? t).map (fun j => (j.size, j.bytes)) = some (i.size, i.bytes)) (hz : (P.info? t).bind (·.zero) = some (zeroOf i)) (hu : P.underlying t = some i.desc) : TyOk P t i := by
  unfold tiB at hb
  simp only [Bool.and_eq_true, beq_iff_eq] at hb
  obtain ⟨b1, b2, b3, b4⟩ := hb
  cases hinfo : P.info? t with
  | none => rw [hinfo] at hi; cases hi
  | some info =>
    rw [hinfo] at hi hz
    simp only [Option.map_some, Option.some.injEq, Prod.mk.injEq] at hi
    have hz : info.zero = some (zeroOf i) := hz
    refine ⟨⟨info, _, hinfo, hi.1, hi.2, hz, ?_, fun ha => ?_, fun ha => ?_⟩, hu, b1, b2, b3, fun ha => ?_⟩
    · unfold zeroOf
      cases ha : i.agg with
      | true => rfl
      | false =>
        rw [ha] at b4
        simp only [Bool.false_or] at b4
        split at b4
        · rename_i v hv
          rw [hv]
          exact cellOk_cells b4
        · cases b4
    · unfold zeroOf; rw [ha]; exact ⟨_, rfl⟩
    · rw [ha] at b4
      simp only [Bool.false_or] at b4
      split at b4
      · rename_i v hv
        unfold zeroOf
        rw [ha, hv]
        rfl
      · cases b4
    · rw [ha] at b4
      simp only [Bool.false_or] at b4
      split at b4
      · rename_i v hv; exact ⟨v, hv⟩
      · cases b4

/-- .. of a map's key -/
def keyFs (P : Program) : List Field → Nat → Bool
  | [], _ => true
  | f :: r, j => (f.name != "_") && ((f.offset == j) && ((match P.underlying f.type with | some (.int _) => true | _ => false) && keyFs P r (j + 1)))
theorem keyFs_get {P : Program} : ∀ (l : List Field) (j k : Nat) (f : Field), keyFs P l j = true → l[k]? = some f → f.name ≠ "_" ∧ f.offset = j + k ∧ ∃ q, P.underlying f.type = some (.int q)
  | [], _, k, f, _, h => by simp at h
  | g :: r, j, k, f, h, hk => by
    unfold keyFs at h
    simp only [Bool.and_eq_true, bne_iff_ne, ne_eq, beq_iff_eq] at h
    obtain ⟨h1, h2, h3, h4⟩ := h
    cases k with
    | zero =>
      simp only [List.getElem?_cons_zero, Option.some.injEq] at hk
      subst hk
      refine ⟨h1, h2, ?_⟩
      split at h3
      · exact ⟨_, by assumption⟩
      · cases h3
    | succ k =>
      obtain ⟨a, b, c⟩ := keyFs_get r (j + 1) k f h4 (by simpa using hk)
      exact ⟨a, by omega, c⟩
def keyB (P : Program) (t nf : Nat) : Bool := match P.underlying t with
  | some (.struct fs) => (fs.size == nf) && (keyFs P fs.toList 0 && !P.stoodInHeld t)
  | _ => false
theorem keyTy_of {P : Program} {t nf : Nat} (h : keyB P t nf = true) : KeyTy P t nf := by
  unfold keyB at h
  split at h
  · rename_i fs hfs
    simp only [Bool.and_eq_true, beq_iff_eq, Bool.not_eq_true'] at h
    obtain ⟨h1, h2, h3⟩ := h
    refine ⟨⟨fs, hfs, h1, fun j f hj => ?_⟩, h3⟩
    have := keyFs_get fs.toList 0 j f h2 (by simpa using hj)
    simpa using this
  · cases h
end Go.Det
set_option maxRecDepth 100000
namespace Go.Det
open Go.Proofs
noncomputable def tyL : List (Nat × TI) := tyT.rows 0 1
noncomputable def fnL : List (Nat × Func) := fnT.rows 0 1
def keyL : List (Nat × Nat) := keyT.rows 0 1

theorem tyL_b : (tyL.all fun x => tiB x.2) = true := by kernel_rfl
theorem tyL_i : (tyL.map fun x => (Tryz.prog.info? x.1).map (fun j => (j.size, j.bytes))) = tyL.map fun x => some (x.2.size, x.2.bytes) := by kernel_rfl
theorem tyL_z : (tyL.map fun x => (Tryz.prog.info? x.1).bind (·.zero)) = tyL.map fun x => some (zeroOf x.2) := by kernel_rfl
theorem tyL_u : (tyL.map fun x => Tryz.prog.underlying x.1) = tyL.map fun x => some x.2.desc := by kernel_rfl
theorem fnL_f : (fnL.map fun x => Tryz.prog.funcs[x.1]?) = fnL.map fun x => some x.2 := by kernel_rfl
theorem fnL_n : (fnL.all fun x => !(x.2.name == "runtime.NumGoroutine")) = true := by kernel_rfl
theorem keyL_b : (keyL.all fun x => keyB Tryz.prog x.1 x.2) = true := by kernel_rfl

theorem tblOk : TblOk Tryz.prog tbl where
  fn g fn h := by
    have := Tr.rows_get0 (t := fnT) h
    exact ⟨map_mem fnL_f _ this, by simpa using all_mem fnL_n _ this⟩
  ty t i h := by
    have := Tr.rows_get0 (t := tyT) h
    exact tyOk_of (all_mem tyL_b _ this) (map_mem tyL_i _ this) (map_mem tyL_z _ this) (map_mem tyL_u _ this)
  key t nf h := by
    have := Tr.rows_get0 (t := keyT) h
    exact keyTy_of (all_mem keyL_b _ this)
end Go.Det
set_option maxRecDepth 100000
namespace Go.Det
open Go.Proofs
def ordI : OrdI := ⟨231, 309, 310, 1000000⟩
theorem hmix : Tryz.prog.follows .mixedOrders = true := by kernel_rfl
theorem chanTy : ChanTy tbl ordI.tc := by
  refine ⟨.both, 3, 8, ty3, ?_, ?_⟩
  · show tyT.get 310 = some ty310
    kernel_rfl
  · show tyT.get 3 = some ty3
    kernel_rfl
theorem sameFn : SameFn Tryz.prog 183 := by
  refine ⟨Tryz.f183, _, by kernel_rfl, by kernel_rfl, by kernel_rfl, by kernel_rfl, rfl, fun v => rfl⟩
theorem childFn : ChildFn Tryz.prog ordI :=
  ⟨Tryz.f231, 0, _, _, _, by kernel_rfl, by kernel_rfl, rfl, rfl, by decide, rfl, ⟨rfl, rfl, rfl⟩, ⟨rfl, rfl, rfl⟩⟩
theorem orderFn : OrderFn Tryz.prog 193 ordI :=
  ⟨Tryz.f193, 0, 1, 2, 3, _, _, _, _, _, _, _, _, _, by kernel_rfl, by kernel_rfl, rfl, rfl, rfl, ⟨rfl, rfl, rfl⟩, ⟨rfl, rfl, rfl⟩, ⟨rfl, rfl, rfl⟩, ⟨rfl, rfl, rfl⟩, ⟨rfl, rfl, rfl⟩, ⟨rfl, rfl, rfl⟩, ⟨rfl, rfl, rfl⟩, ⟨rfl, rfl, rfl⟩, ⟨rfl, rfl, rfl⟩⟩
end Go.Det
set_option maxRecDepth 100000
namespace Go.Det
open Go.Proofs

/-- a listed array of integers, as the row's condition gives it -/
theorem laid_arr {P : Program} {W : World} {name : String} {g : Nat} {t e n : Nat} {k : IntKind} {l : List Int} {d : DataW Unit} (hg : P.globalNamed name = some g) (ht : (P.globals[g]?).map (·.type) = some t) (hu : P.underlying t = some (.array n e)) (he : P.underlying e = some (.int k)) (ce : P.cellsOf e = 1) (ct : P.cellsOf t = n)
    (hd : d = .agg (l.map fun z => .lit (.int k z))) {cs : Array Value} {fuel : Nat} {p : List MemPlace} (h : DataW.trod (fun _ => ()) P W 0 (fun _ => true) false fuel t cs.toList = some (d, p)) : cs = ⟨l.map (.int k)⟩ := by
  obtain ⟨xs, m, _, ex, h1, h2, h3⟩ := DataW.trod_array hu h
  rw [ct] at h1
  subst hd
  have e3 : (xs.map (·.1)) = l.map fun z => .lit (.int k z) := (DataW.agg.inj (Prod.mk.inj ex).1).symm
  have hlen : l.length = n := by
    have := congrArg List.length e3
    simpa [h2] using this.symm
  refine Array.toList_inj.1 (List.ext_getElem? fun i => ?_)
  by_cases hi : i < n
  · have hE := h3 i hi
    rw [ce, Nat.mul_one, List.getElem?_eq_getElem (by omega)] at hE
    obtain ⟨z, e1, e2, _⟩ := DataW.trod_int he hE
    have e4 : (xs.map (·.1))[i]? = (l.map fun z => (DataW.lit (.int k z) : DataW Unit))[i]? := by rw [e3]
    rw [List.getElem?_map, List.getElem?_map, List.getElem?_eq_getElem (by omega : i < xs.length), List.getElem?_eq_getElem (by omega : i < l.length), e2] at e4
    simp only [Option.map_some, Option.some.injEq, DataW.lit.injEq, Lit.int.injEq, true_and] at e4
    have : cs.toList[i]? = some (.int k z) := by
      have h0 : ((cs.toList.drop i).take 1)[0]? = some (.int k z) := by rw [e1]; rfl
      simpa using h0
    rw [this, List.getElem?_map, List.getElem?_eq_getElem (by omega : i < l.length), e4]
    rfl
  · rw [List.getElem?_eq_none (by omega), List.getElem?_eq_none (by simp; omega)]
theorem var_cells {P : Program} {W : World} {name : String} {g : Nat} {cs : Array Value} (hg : P.globalNamed name = some g) (h : W.var? P name = some cs) : ∃ el fr, W.heap[g]? = some (.cells cs el fr) := by
  unfold World.var? at h
  rw [hg] at h
  simp only [Option.bind_some] at h
  split at h
  · rename_i c el fr hh
    cases h
    exact ⟨el, fr, hh⟩
  · cases h
theorem shaped_el {P : Program} {W : World} (h : W.ShapedOpen P) {g el : Nat} (hg : g < P.globals.size) (h0 : (((begin P (fun _ _ => 0) default).world.heap[g]?).bind Obj.row?).map (·.2) = some el) : ∃ cs, W.heap[g]? = some (.cells cs el) := by
  cases hq : ((begin P (fun _ _ => 0) default).world.heap[g]?).bind Obj.row? with
  | none => rw [hq] at h0; cases h0
  | some x =>
    obtain ⟨zero, t⟩ := x
    rw [hq] at h0
    cases h0
    obtain ⟨cs, h1, _⟩ := h.1 g zero _ hg hq
    exact ⟨cs, h1⟩
end Go.Det
set_option maxRecDepth 100000
namespace Go.Det
open Go.Proofs Go.Conc Go.ChangeShapes Go.WideShapes Go.ChangeAt Go.RowKit
open Go.Proofs.YtohliokdpiafbaaGreatDoor

theorem laidMetH.heap {W W' : World} {l : List (String × DataW Unit)} (hl : (l.filter fun x => x.2.handleName?.isSome) = []) (hh : W.heap = W'.heap) (h : laidMetH Tryz.prog l W) : laidMetH Tryz.prog l W' := by
  unfold laidMetH at h ⊢
  rw [hl] at h ⊢
  exact laidMet.of_heap hh h

theorem start_of {W : World} (hs : W.ShapedOpen Tryz.prog) (hl : laidMetH Tryz.prog Rows.coachKnownRow.laid W) : Start h0 W := by
  rw [MakeChecks.laidMetH_plain _ _ _ (by kernel_rfl)] at hl
  obtain ⟨ps, ⟨g3, t3, c3, f3, p3, q3, a3, b3, v3, d3, ⟨g1, t1, c1, f1, p1, q1, a1, b1, v1, d1, ⟨g2, t2, c2, f2, p2, q2, a2, b2, v2, d2, ⟨g0, t0, c0, f0, p0, q0, a0, b0, v0, d0, _, _⟩, _⟩, _⟩, _⟩, _, _⟩ := hl
  have n3 : Tryz.prog.globalNamed "math/bits.deBruijn32tab" = some 3 := by kernel_rfl
  have n1 : Tryz.prog.globalNamed "math/bits.deBruijn64tab" = some 1 := by kernel_rfl
  have n2 : Tryz.prog.globalNamed "internal/strconv.uint64pow10" = some 2 := by kernel_rfl
  have n0 : Tryz.prog.globalNamed "parlour/nat.digits" = some 0 := by kernel_rfl
  obtain rfl := Option.some.inj (n3.symm.trans a3)
  obtain rfl := Option.some.inj (n1.symm.trans a1)
  obtain rfl := Option.some.inj (n2.symm.trans a2)
  obtain rfl := Option.some.inj (n0.symm.trans a0)
  obtain rfl := Option.some.inj ((show (Tryz.prog.globals[3]?).map (·.type) = some 355 by kernel_rfl).symm.trans b3)
  obtain rfl := Option.some.inj ((show (Tryz.prog.globals[1]?).map (·.type) = some 287 by kernel_rfl).symm.trans b1)
  obtain rfl := Option.some.inj ((show (Tryz.prog.globals[2]?).map (·.type) = some 329 by kernel_rfl).symm.trans b2)
  obtain rfl := Option.some.inj ((show (Tryz.prog.globals[0]?).map (·.type) = some 210 by kernel_rfl).symm.trans b0)
  have e3 := laid_arr (l := l3) a3 b3 (show Tryz.prog.underlying 355 = some (.array 32 5) by kernel_rfl) (show Tryz.prog.underlying 5 = some (.int .u8) by kernel_rfl) (by kernel_rfl) (by kernel_rfl) (by rfl) d3
  have e1 := laid_arr (l := l1) a1 b1 (show Tryz.prog.underlying 287 = some (.array 64 5) by kernel_rfl) (show Tryz.prog.underlying 5 = some (.int .u8) by kernel_rfl) (by kernel_rfl) (by kernel_rfl) (by rfl) d1
  have e2 := laid_arr (l := l2) a2 b2 (show Tryz.prog.underlying 329 = some (.array 20 194) by kernel_rfl) (show Tryz.prog.underlying 194 = some (.int .u64) by kernel_rfl) (by kernel_rfl) (by kernel_rfl) (by rfl) d2
  have e0 := laid_arr (l := l0) a0 b0 (show Tryz.prog.underlying 210 = some (.array 10 5) by kernel_rfl) (show Tryz.prog.underlying 5 = some (.int .u8) by kernel_rfl) (by kernel_rfl) (by kernel_rfl) (by rfl) d0
  have one : ∀ (g el : Nat) (name : String) (cs : List Value), Tryz.prog.globalNamed name = some g → W.var? Tryz.prog name = some ⟨cs⟩ → g < Tryz.prog.globals.size → (((begin Tryz.prog (fun _ _ => 0) default).world.heap[g]?).bind Obj.row?).map (·.2) = some el → ∃ fr, W.heap[g]? = some (.cells ⟨cs⟩ el fr) := by
    intro g el name cs hn hv hg h0
    obtain ⟨el', fr, h1⟩ := var_cells hn hv
    obtain ⟨cs', h2⟩ := shaped_el hs hg h0
    rw [h1] at h2
    cases h2
    exact ⟨_, h1⟩
  refine ⟨fun i o ho => ?_⟩
  have hm := Tr.rows_get0 ho
  have hr : h0.rows 0 1 = [(0, .cells 210 (l0.map (.int .u8)) none true), (1, .cells 287 (l1.map (.int .u8)) none true), (2, .cells 329 (l2.map (.int .u64)) none true), (3, .cells 355 (l3.map (.int .u8)) none true)] := rfl
  rw [hr] at hm
  simp only [List.mem_cons, Prod.mk.injEq, List.not_mem_nil, or_false] at hm
  rcases hm with ⟨rfl, rfl⟩ | ⟨rfl, rfl⟩ | ⟨rfl, rfl⟩ | ⟨rfl, rfl⟩
  · exact ⟨by omega, _, _, rfl, by kernel_rfl, one 0 210 _ _ n0 (by rw [v0, e0]) (of_decide_eq_true (by kernel_rfl)) (by kernel_rfl)⟩
  · exact ⟨by omega, _, _, rfl, by kernel_rfl, one 1 287 _ _ n1 (by rw [v1, e1]) (of_decide_eq_true (by kernel_rfl)) (by kernel_rfl)⟩
  · exact ⟨by omega, _, _, rfl, by kernel_rfl, one 2 329 _ _ n2 (by rw [v2, e2]) (of_decide_eq_true (by kernel_rfl)) (by kernel_rfl)⟩
  · exact ⟨by omega, _, _, rfl, by kernel_rfl, one 3 355 _ _ n3 (by rw [v3, e3]) (of_decide_eq_true (by kernel_rfl)) (by kernel_rfl)⟩

theorem keptBut_same {w w' : World} {may : MemPlace → Prop} (h1 : w'.os = w.os) (h2 : w'.output = w.output) (s : ∀ i, i < w.heap.size → w'.heap[i]? = w.heap[i]?) : w.keptBut w' may := by
  refine ⟨h1, h2, fun i hi => ?_⟩
  rw [s i hi]
  cases hq : w.heap[i]? with
  | none => rfl
  | some x => cases x <;> simp

theorem topB_inv {P : Program} {T : Tbl} {sp : Sp} {F g : Nat} {args : List Value} {h : Heap} {n : Nat} (e : topB P T sp F g args h n = true) :
    ∃ fn h' n', T.fn g = some fn ∧ bodyA T (aRun P T sp F) fn args h n = some (.bool true, h', n') ∧ noPipe h' = true := by
  unfold topB at e
  split at e
  · rename_i fn hf
    split at e
    · rename_i v h' n' hb
      split at e
      · exact ⟨fn, h', n', hf, hb, e⟩
      · cases e
    · cases e
  · cases e

/-- what is asked of the company's end -/
def PostT (W : World) (v : Value) (w' : World) : Prop := v = .bool true ∧ w'.os = W.os ∧ w'.output = W.output ∧ ∀ i, i < W.heap.size → w'.heap[i]? = W.heap[i]?

/-- the seat's two told calls, at any end -/
theorem sp0_mono : MonoS (sp43 Tryz.prog tbl 183 193 ordI) := sp43_mono
theorem sp0_ok (Post : Value → World → Prop) : SpOk (ctx0 Tryz.prog Post) (sp43 Tryz.prog tbl 183 193 ordI) := sp43_ok tblOk rfl hmix childFn sameFn orderFn chanTy

theorem known_lifted {F : Nat} {cs : List Can} (HC : ∀ Post, ∀ c ∈ cs, CanWell Tryz.prog tbl (ctx0 Tryz.prog Post) c) (ht : topB Tryz.prog tbl (canSp cs (sp43 Tryz.prog tbl 183 193 ordI)) F 6 [] h0 64 = true)
    (os : Os) (started : os.Started) (H : Type) (enc : TypeId × Value → H) :
    ReturnsInLeavingWide Rows.coachKnownRow.assume Tryz.checked os 6 .any (Rows.coachKnownRow.pre enc Tryz.prog Tryz.f6 (OpenSpec.ofChange Rows.coachKnownSpec)) (Rows.coachKnownSpec.post enc Tryz.prog Tryz.f6 false true false false) := by
  refine returnsInLeavingWide_of_good (by kernel_rfl) started ?_ ?_
  · exact ChangeSpec.witness_shaped (enc := enc) (C := Tryz.checked) (os := os) (conds := []) (X := fun w _ => laidMetH Tryz.prog Rows.coachKnownRow.laid w) false (World.laidAll Tryz.prog os Rows.coachKnownRow.laid) #[] 8 (World.laidAll_os _ _ _)
      (World.shaped_of_ZipB (by kernel_rfl) (by kernel_rfl)) (by kernel_rfl) (by kernel_rfl) (by kernel_rfl)
      (by rw [MakeChecks.laidMetH_plain _ _ _ (by kernel_rfl)]; exact laidMet_laidAll _ (by kernel_rfl) (by kernel_rfl))
  · intro w tape i hos hsh hvars hok hpre hholds
    obtain ⟨⟨⟨ds, gs, before, hw, hc⟩, hl⟩, hz⟩ := hpre
    have hw' := DataW.Whole.of_heap (w' := w.forCall tape i) (by rfl) hw
    have hl' : laidMetH Tryz.prog Rows.coachKnownRow.laid (w.forCall tape i) := laidMetH.heap (by kernel_rfl) (by rfl) hl
    have st := start_of hsh hl'
    generalize w.forCall tape i = W at hw' st
    have hWh := hw'
    obtain ⟨p, q, hA0, hV, rfl, _, _⟩ := hw'
    have hA : DataW.TrodAll enc Tryz.prog W 0 (fun _ => true) true Tryz.f6.params.toList i.args.toList ds p := hA0
    rw [Tryz.params6] at hA
    obtain ⟨ha, rfl, rfl⟩ := ChangeShapes.trodAll_nil hA
    obtain ⟨rfl, rfl⟩ := ChangeShapes.trodVars_none hV
    obtain ⟨fn, h', n', g1, g2, g3⟩ := topB_inv ht
    obtain ⟨g4, _⟩ := tblOk.fn 6 fn g1
    have hargs : i.args = ⟨[]⟩ := Array.toList_inj.1 ha
    rw [hargs]
    have M : MonoS (canSp cs (sp43 Tryz.prog tbl 183 193 ordI)) := fun e => CanWell.mono (fun e => sp0_mono e) (HC (PostT W)) e
    have S : SpOk (ctx0 Tryz.prog (PostT W)) (canSp cs (sp43 Tryz.prog tbl 183 193 ordI)) := fun e => canSp_ok tblOk (recv0_ok (P := Tryz.prog) (Post := PostT W) (T := tbl) rfl) hmix (fun e => sp0_ok (PostT W) e) (HC (PostT W)) e
    obtain ⟨N, last, o, w', t', r1, r2, r3, r4⟩ := top_run (Post := PostT W) tblOk (fun e => M e) (fun e => S e) (recv0_ok rfl) hmix g4 (by kernel_rfl) g2 (noPipe_get g3) (st.at n') .nil fun ρ' pm' w' u r hv => by
      cases hv
      exact ⟨rfl, r.world.2.1, r.world.2.2, fun b hb => r.old b hb hb (fun x => x)⟩
    refine ⟨N, last, o, w', t', r1, r2, r3, r4.mono fun v hp => ?_⟩
    obtain ⟨rfl, p1, p2, p3⟩ := hp
    refine ChangeSpec.post_blind ?_
    exact ⟨[], [], [], [], [], [], hargs ▸ hWh, trodAll_mk1 (shut_bool Tryz.underlying4 true), (by rw [Tryz.params6]; exact rfl), (show DataW.TrodVars enc Tryz.prog w' _ [] [] [] from rfl), keptBut_same p1 p2 p3, fun h => by cases h⟩
end Go.Det
