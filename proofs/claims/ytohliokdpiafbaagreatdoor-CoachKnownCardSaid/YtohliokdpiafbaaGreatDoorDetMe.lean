/- The calls that are told otherwise than by their text, and the road from the evaluator to a run of the machine. Conditions: none beyond what each theorem states. -/
import Derived.Test.YtohliokdpiafbaaGreatDoorDetMd
import Derived.Test.YtohliokdpiafbaaGreatDoorDetS
import Derived.Test.YtohliokdpiafbaaGreatDoorDetC1
import Derived.Test.YtohliokdpiafbaaGreatDoorDetMc
set_option linter.unusedVariables false
set_option linter.unusedSimpArgs false
set_option linter.unusedSectionVars false
set_option linter.constructorNameAsVariable false
namespace Go.Det
open Go.Conc

structure IsOp (o : Oper) (d : Option Nat) (op : Op) : Prop where
  dst : o.dst = d
  op : o.op = op
  guard : o.guard = none

section
variable {P : Program} {T : Tbl} {nt : Nat} {all : List Oper}
theorem oc_of {o : Oper} {d : Option Nat} {op : Op} (h : IsOp o d op) {f : Tmps → Heap → Nat → Option AR} (hf : opC P T op = .mk f) : oc P T nt all o = .mk fun call tm h n => laidA nt d tm (uponA call h n (f tm h n)) := by
  unfold oc guardT
  rw [h.guard]
  dsimp only
  rw [h.op, hf, h.dst]
  rfl
theorem aOps_cons {call : CallA} {o : Oper} {r : List Oper} {f : CallA → Tmps → Heap → Nat → R3} (h : oc P T nt all o = .mk f) {tm tm' : Tmps} {hp hp' : Heap} {n n' : Nat} (e : f call tm hp n = some (tm', hp', n')) : aOps P T call nt all (o :: r) tm hp n = aOps P T call nt all r tm' hp' n' := by
  rw [aOps, h]
  dsimp only
  rw [e]
end

/-! ### abi.NoEscape -/
def call0 : CallA := fun _ _ _ _ => none
theorem mono0 : MonoC call0 := fun e => by cases e
theorem ok0 {P : Program} (C : Ctx P) : CallOk C call0 := fun e => by cases e
theorem noSp_mono : MonoS noSp := fun e => by cases e
theorem noSp_ok {P : Program} (C : Ctx P) : SpOk C noSp := fun e => by cases e

structure SameFn (P : Program) (f : Nat) : Prop where
  ex : ∃ fn e, P.funcs[f]? = some fn ∧ (fn.name == "runtime.NumGoroutine") = false ∧ fn.body.isNone = true ∧ Extern.findNext fn = none ∧ Extern.find fn = some e ∧ ∀ v, e #[v] = pure v

theorem same_ok {P : Program} {C : Ctx P} {f : Nat} (F : SameFn P f) {v : Value} {h : Heap} {n : Nat} {σ : Stage} {ρ : Ren} {pm : Perm} {w : World} {b : Frame} {a : Act} {k : List Item} {cs : List Frame} {ops : Array Oper} {i N : Nat} {rest : List Nat} {o : Oper} (A : At P C σ ρ h w pm n N)
    (ho : ops[i]? = some o) (hw : Region.wanted o (yielded ops a.tmps) = true) (hk : b.kind ≠ .early) (hc : ∀ w₁, Rely pm w w₁ → OpCall P ρ w₁ pm (execOp a.eval o) f [v])
    (hK : Behind P C ρ h w pm n v h n (fun σ' pm' w' u => C.Go σ' pm' (G (b.at (a.put o.dst u) (.inRegion ops rest :: k)) cs) w')) :
    C.Go σ pm (G (b.at a (.inRegion ops (i :: rest) :: k)) cs) w := by
  obtain ⟨fn, e, f1, f2, f3, f4, f5, f6⟩ := F.ex
  refine C.step rfl fun w₁ r => ?_
  obtain ⟨us, es, ⟨_, h1, _⟩, h2, h3⟩ := hc w₁ r
  obtain ⟨u, us', rfl, q1, q2⟩ := h2.cons_inv
  obtain rfl := q2.nil_inv
  have hb : fn.body = none := by simpa using f3
  have hcall : (callFunc f ⟨[u]⟩).runT P w₁ es = (.ok (.value u) w₁, es.push ⟨.mark (.extern f), false, true⟩) := by
    unfold callFunc
    rw [rT_bind (x := program) (a := P) rfl, f1]
    dsimp only
    rw [f2, hb]
    simp only [Bool.false_eq_true, if_false, Option.isNone_none, if_true]
    rw [rT_bind (x := mark (.extern f)) (a := ()) (w' := w₁) (es' := es.push ⟨.mark (.extern f), false, true⟩) rfl, f4, f5]
    dsimp only
    have : e ⟨[u]⟩ = pure u := f6 u
    rw [this]
    rfl
  rw [hcall] at h1
  obtain ⟨r1, r2⟩ := run_of h1
  refine ⟨_, _, _, pm, stepG_value ho hw hk r1, StepOk.refl _ _, ?_, hK σ ρ pm w₁ u (Runs.rely A.sim r n) A.stage q1⟩
  unfold listed
  rw [r2]
  refine evIn_seen (h3.trans (EvLe.push ⟨.inr ⟨f, rfl⟩, rfl, rfl⟩))

/-! ### blocks that are no longer written -/
theorem roMark_get {h h' : Heap} {i : Nat} (e : roMark h i = some h') : ∃ el cs fx ro, h.get i = some (.cells el cs fx ro) ∧ ∀ j, h'.get j = if j = i then some (.cells el cs fx true) else h.get j := by
  unfold roMark at e
  split at e
  · rename_i el cs fx ro hg
    exact ⟨el, cs, fx, ro, hg, fun j => hput_get e j⟩
  · cases e
/-- what a marked heap is -/
theorem marks_get : ∀ {l : List Nat} {h h' : Heap}, marks h l = some h' → (∀ i, i ∉ l → h'.get i = h.get i) ∧ ∀ i, i ∈ l → ∃ el cs fx ro, h.get i = some (.cells el cs fx ro) ∧ h'.get i = some (.cells el cs fx true)
  | [], h, h', e => by cases e; exact ⟨fun _ _ => rfl, fun i hi => by simp at hi⟩
  | j :: l, h, h', e => by
    unfold marks at e
    split at e
    · rename_i h1 e1
      obtain ⟨el, cs, fx, ro, g1, g2⟩ := roMark_get e1
      obtain ⟨a1, a2⟩ := marks_get e
      refine ⟨fun i hi => ?_, fun i hi => ?_⟩
      · have hij : i ≠ j := fun x => hi (by simp [x])
        rw [a1 i (fun x => hi (by simp [x])), g2, if_neg hij]
      · by_cases hij : i = j
        · subst hij
          refine ⟨el, cs, fx, ro, g1, ?_⟩
          by_cases hil : i ∈ l
          · obtain ⟨el', cs', fx', ro', b1, b2⟩ := a2 i hil
            rw [g2, if_pos rfl] at b1
            cases b1
            exact b2
          · rw [a1 i hil, g2, if_pos rfl]
        · obtain ⟨el', cs', fx', ro', b1, b2⟩ := a2 i ((List.mem_cons.1 hi).resolve_left hij)
          rw [g2, if_neg hij] at b1
          exact ⟨el', cs', fx', ro', b1, b2⟩
    · cases e
theorem pickH_get {h : Heap} : ∀ {l : List Nat} {hc : Heap}, pickH h l = some hc → (∀ i o, hc.get i = some o → i ∈ l ∧ h.get i = some o) ∧ ∀ i, i ∈ l → hc.get i = h.get i
  | [], hc, e => by cases e; exact ⟨fun i o hi => (by cases hi), fun i hi => (by simp at hi)⟩
  | j :: l, hc, e => by
    unfold pickH at e
    split at e
    · rename_i o1 acc g1 g2
      obtain ⟨a1, a2⟩ := pickH_get g2
      refine ⟨fun i o hi => ?_, fun i hi => ?_⟩
      · rw [hput_get e] at hi
        split at hi
        · rename_i hij; subst hij; cases hi; exact ⟨by simp, g1⟩
        · obtain ⟨b1, b2⟩ := a1 i o hi; exact ⟨by simp [b1], b2⟩
      · rw [hput_get e]
        split
        · rename_i hij; subst hij; exact g1.symm
        · rename_i hij; exact a2 i ((List.mem_cons.1 hi).resolve_left hij)
    · cases e

/-! ### the literal -/
structure ChildFn (P : Program) (i : OrdI) : Prop where
  ex : ∃ (fn : Func) (i0 : Nat) (x y : Oper) (r : Code), P.funcs[i.child]? = some fn ∧ (fn.name == "runtime.NumGoroutine") = false ∧ fn.norace = false ∧ fn.body = some (.seq (.region i0 #[x, y] false) r) ∧ 5 ≤ fn.ntmps ∧ fn.results = #[] ∧
    IsOp x (some 4) (.load i.tc (.tmp 0)) ∧ IsOp y none (.defer { callee := .builtin .close, args := #[.tmp 4], argTypes := #[i.tc] })
def ChanTy (T : Tbl) (t : Nat) : Prop := ∃ (d : ChanDir) (e b : Nat) (te : TI), T.ty t = some { desc := .chan d e, size := 1, bytes := b, zero := [.chan none], agg := false } ∧ T.ty e = some te
def closeD (i : OrdI) (ty : Nat) (c : Nat) : Deferred := { target := .builtin .close #[i.tc] ty #[false], args := #[.chan (some c)] }
def goD (i : OrdI) (us : Array Value) : Deferred := { target := .fn (.func i.child) us, args := #[] }

section
variable {P : Program} {T : Tbl} {i : OrdI}
/-- a frame that has made its deferred call of close -/
theorem stepG_close {b0 : Frame} {a : Act} {todo : List Item} {cs : List Frame} {ty c sn rc : Nat} {tm : Bool} {w : World} {fn : Func} (hf : P.funcs[b0.fn]? = some fn) (hnr : fn.norace = false) (hd : a.defers = [closeD i ty c]) (hc : w.heap[c]? = some (.chan 0 #[] false sn rc tm)) :
    stepG P false (G { b0.at a todo with mode := .returning } cs) w = .go (G { b0.at ⟨a.tmps, []⟩ todo with mode := .returning } cs) (w.shut c sn rc tm) #[⟨.obj c, false, true⟩, ⟨.obj c, true, true⟩] := by
  have hr := run_close_open (P := P) #[i.tc] ty hc
  have he := events_close_open (P := P) (es := #[]) #[i.tc] ty hc
  have hsn : seen P b0.fn #[⟨.obj c, false, true⟩, ⟨.obj c, true, true⟩] = #[⟨.obj c, false, true⟩, ⟨.obj c, true, true⟩] := seen_eq (by simp [hf, hnr]) (by simp)
  have hb : (builtin .close #[i.tc] ty #[false] #[.chan (some c)]).runT P w #[] = (.ok (.value (.tuple #[])) (w.shut c sn rc tm), #[⟨.obj c, false, true⟩, ⟨.obj c, true, true⟩]) := by
    rw [Sem.runT_eq]
    simp [go_sem, hr, he, World.shut]
  obtain ⟨b1, b2⟩ := run_of hb
  simp [G, stepG, unwind, callDeferred, Frame.at, hd, closeD, invoke, b1, b2, GStep.after, hsn]

def bottom (P : Program) : Frame := { (default : Frame) with fn := P.funcs.size, defers := [], mode := .panicking [goexitEntry] }
/-- behind the close it only leaves -/
theorem quits {fn : Func} (hf : P.funcs[i.child]? = some fn) (hr : fn.results = #[]) {tmps : Array Value} {todo : List Item} : QuitsIn P 2 (G { (baseD i.child).at ⟨tmps, []⟩ todo with mode := .returning } [bottom P]) := by
  refine .inr ⟨rfl, G (bottom P) [], fun w => ?_, .inr ⟨rfl, { G (bottom P) [] with status := .finished }, fun w => ?_, rfl⟩⟩
  · simp [G, stepG, unwind, doReturn, results, Frame.at, baseD, bottom, hf, hr, seen, GStep.after, goexitEntry]
  · simp [G, stepG, unwind, bottom, goexitEntry, Frame.catches]
    rfl
/-- the child's first step -/
theorem born_step {fn : Func} {c : Code} {us : Array Value} (hf : P.funcs[i.child]? = some fn) (hn : (fn.name == "runtime.NumGoroutine") = false) (hb : fn.body = some c) (w : World) :
    stepG P false (born P (goD i us)) w = .go (G ((baseD i.child).at ⟨us ++ Array.replicate (fn.ntmps - us.size) undef, []⟩ [.code c]) [bottom P]) w #[] := by
  have h1 : ¬ fn.name = "runtime.NumGoroutine" := by simpa using hn
  have e := enter_atD (P := P) us hf hb
  simp [born, goD, stepG, unwind, callDeferred, invoke, callFunc, hf, h1, hb, seen_none, GStep.after, G, bottom, e]
/-- the operation 'defer close(..)' -/
theorem stepG_deferClose {b0 : Frame} {a : Act} {k : List Item} {cs : List Frame} {ops : Array Oper} {j : Nat} {rest : List Nat} {o : Oper} {c : Nat} (ho : ops[j]? = some o) (hk : b0.kind ≠ .early) (hy : IsOp o none (.defer { callee := .builtin .close, args := #[.tmp 4], argTypes := #[i.tc] }))
    (hc : a.eval (.tmp 4) = .chan (some c)) (w : World) :
    stepG P false (G (b0.at a (.inRegion ops (j :: rest) :: k)) cs) w = .go (G (b0.at ⟨a.tmps, closeD i o.type c :: a.defers⟩ (.inRegion ops rest :: k)) cs) w #[] := by
  have hw : Region.wanted o (yielded ops a.tmps) = true := by unfold Region.wanted; rw [hy.guard]
  have hr : (execOp a.eval o).run P w = .ok (.defer (closeD i o.type c)) w := by
    unfold execOp
    simp [hy.op, resolve, hc, closeD]
  have he : (execOp a.eval o).events P w #[] = #[] := by
    unfold execOp
    simp [hy.op, resolve, hc]
  have hfin : (b0.at ⟨a.tmps, closeD i o.type c :: a.defers⟩ (.inRegion ops (j :: rest) :: k)).finish undef = b0.at ⟨a.tmps, closeD i o.type c :: a.defers⟩ (.inRegion ops rest :: k) := by
    rw [Frame.finish_at, ho]
    simp [hy.dst, Act.put]
  have hk' : (b0.kind == CallKind.early) = false := by simpa using hk
  rw [stepG_oper ho hw, ← hfin]
  simp [stepG.apply, hr, he, G, Frame.at, hk', GStep.after, seen_none]
end
end Go.Det
namespace Go.Det
open Go.Conc

section
variable {P : Program} {T : Tbl} (K : TblOk P T) (hmix : P.follows .mixedOrders = true) {i : OrdI} (F : ChildFn P i) (hct : ChanTy T i.tc)
include K hmix F hct
theorem child_snd {ρ : Ren} {h9 : Heap} {w : World} {pmc : Perm} {n b : Nat} {us : List Value} {ids : List Nat} {u3 u1 : Value} (hk : childOk P T i h9 n ids = true)
    (hA : ∀ hc, pickH h9 ids = some hc → At P (sndCtx P) (some (b, us)) ρ hc w pmc (n + 3) (n + 3)) (h3 : h9.get (n + 2) = some (.cells i.tc [.chan (some (n + 1))] none true)) (hid : n + 2 ∈ ids ∧ n + 1 ∈ ids)
    (hu3 : VRel ρ (.pointer (some ⟨n + 2, 0, none⟩)) u3) (hu1 : VRel ρ (.pointer (some ⟨n, 0, none⟩)) u1) : Snd P b us pmc (born P (goD i #[u3, u1])) w := by
  obtain ⟨fn, i0, x, y, r, f1, f2, f3, f4, f5, f6, fx, fy⟩ := F.ex
  obtain ⟨cd, ce, cb, cte, hty, hte⟩ := hct
  unfold childOk at hk
  split at hk
  · rename_i fn' hc g1 g2
    obtain ⟨q1, _⟩ := K.fn _ _ g1
    rw [f1] at q1; cases q1
    split at hk
    rename_i m hm
    have hri : restItems fn = [.code r] := by unfold restItems; rw [f4]
    rw [hri] at hk
    have A := hA hc g2
    obtain ⟨p1, p2⟩ := pickH_get g2
    have K1 : TblOk P { T with main := false } := ⟨K.fn, K.ty, K.key⟩
    have RO : RecvOk { T with main := false } (sndCtx P) := snd_ok rfl
    unfold allSent at hk
    split at hk
    · rename_i tmE hE nE hrun
      split at hk
      · rename_i hpipe
        have hnE : nE = n + 3 := Nat.eq_of_beq_eq_true hk
        subst hnE
        suffices hgo : (sndCtx P).Go (some (b, us)) pmc (born P (goD i #[u3, u1])) w from hgo b us rfl
        refine (sndCtx P).ctl rfl (fun w => born_step f1 f2 f4 w) fun w1 r1 => ?_
        have kn : (baseD i.child).kind ≠ .early := show CallKind.deferred ≠ .early by decide
        have A1 := A.rely r1
        have R1 : TRel ρ fn.ntmps (initT [.pointer (some ⟨n + 2, 0, none⟩), .pointer (some ⟨n, 0, none⟩)] 0) (⟨#[u3, u1] ++ Array.replicate (fn.ntmps - 2) undef, []⟩ : Act) := by
          refine ⟨by simp; omega, fun t v hv => ?_⟩
          obtain ⟨_, q2⟩ := initT_get _ _ _ _ hv
          rw [Nat.sub_zero] at q2
          obtain ⟨u, hu, hx⟩ := (VRels.cons hu3 (VRels.cons hu1 .nil)).at' q2
          refine ⟨u, ?_, hx⟩
          have hlt := (List.getElem?_eq_some_iff.1 hu).1
          show (#[u3, u1] ++ Array.replicate (fn.ntmps - 2) undef)[t]? = some u
          rw [Array.getElem?_append_left (by simpa using hlt)]
          simpa using hu
        refine (sndCtx P).ctl rfl (fun w => stepG_seq) fun w2 r2 => ?_
        refine (sndCtx P).ctl rfl (fun w => stepG_region) fun w3 r3 => ?_
        have A3 := (A1.rely r2).rely r3
        have hld : hc.get (n + 2) = some (.cells i.tc [.chan (some (n + 1))] none true) := by rw [p2 _ hid.1]; exact h3
        have hop : opC P { T with main := false } (.load i.tc (.tmp 0)) = .mk fun tm h n => valA h n (oLoad { T with main := false } i.tc h (ev tm (.tmp 0))) := rfl
        have e1 : laidA fn.ntmps (some 4) (initT [.pointer (some ⟨n + 2, 0, none⟩), .pointer (some ⟨n, 0, none⟩)] 0) (uponA call0 hc (n + 3) (valA hc (n + 3) (oLoad { T with main := false } i.tc hc (ev (initT [.pointer (some ⟨n + 2, 0, none⟩), .pointer (some ⟨n, 0, none⟩)] 0) (.tmp 0))))) =
            some (.cons 4 (.chan (some (n + 1))) (initT [.pointer (some ⟨n + 2, 0, none⟩), .pointer (some ⟨n, 0, none⟩)] 0), hc, n + 3) := by
          have : ev (initT [.pointer (some ⟨n + 2, 0, none⟩), .pointer (some ⟨n, 0, none⟩)] 0) (.tmp 0) = some (.pointer (some ⟨n + 2, 0, none⟩)) := rfl
          rw [this]
          have hl : oLoad { T with main := false } i.tc hc (some (.pointer (some ⟨n + 2, 0, none⟩))) = some (.chan (some (n + 1))) := by
            simp only [oLoad, loadT, shapeT, hty, loadN, hld]
            rfl
          rw [hl]
          simp only [valA, uponA, laidA, putA]
          have : Nat.blt 4 fn.ntmps = true := by rw [Nat.blt_eq]; omega
          rw [this]
        have step := one_op K1 (ok0 (sndCtx P)) RO (ops := #[x, y]) (i := 0) (rest := [1]) (o := x) (tm' := .cons 4 (.chan (some (n + 1))) (initT [.pointer (some ⟨n + 2, 0, none⟩), .pointer (some ⟨n, 0, none⟩)] 0)) rfl (oc_of fx hop) e1 A3 (Nat.le_refl _) R1 kn (k := [.code r]) (cs := [bottom P])
        refine step fun σ4 ρ4 pm4 w4 a4 r4 s4 R4 d4 => ?_
        have A4 := r4.at A3 s4
        obtain ⟨uc, hu4, hv4⟩ := R4.get 4 (.chan (some (n + 1))) rfl
        have he4 : a4.eval (.tmp 4) = uc := by simp [Act.eval, hu4]
        cases hv4 with
        | chan hmc =>
        rename_i mc
        have d4 : a4.defers = [] := d4
        refine (sndCtx P).ctl rfl (fun w => stepG_deferClose (i := i) (ops := #[x, y]) (j := 1) rfl kn fy he4 w) fun w5 r5 => ?_
        refine (sndCtx P).ctl rfl (fun w => stepG_region_end) fun w6 r6 => ?_
        have A6 := (A4.rely r5).rely r6
        have R6 : TRel ρ4 fn.ntmps (.cons 4 (.chan (some (n + 1))) (.cons 0 (.pointer (some ⟨n + 2, 0, none⟩)) (.cons 1 (.pointer (some ⟨n, 0, none⟩)) .nil))) (⟨a4.tmps, closeD i y.type mc.b :: a4.defers⟩ : Act) := ⟨R4.size, R4.get⟩
        refine run_ok K1 noSp_mono (noSp_ok (sndCtx P)) RO hmix i.fuel (fn := ⟨fn.ntmps, m⟩) hrun A6 (Nat.le_refl _) R6 kn fun σ7 ρ7 pm7 w7 a7 td r7 s7 R7 d7 => ?_
        intro b7 us7 hσ7
        subst hσ7
        obtain ⟨c', m', z1, z2, z3, z4⟩ := s7
        have hm7 := r7.le _ _ hmc
        obtain rfl := z4 (n + 1) mc [] hm7 hpipe
        rw [hpipe] at z3; cases z3
        rw [hm7] at z1; cases z1
        subst z2
        have d7 : a7.defers = [closeD i y.type mc.b] := d7.trans (show closeD i y.type mc.b :: a4.defers = _ by rw [d4])
        refine Snd.fold (.close rfl (by simp [mayWake, G, Frame.at]) fun w8 sn rc tm r8 hc8 => ?_)
        exact ⟨_, 2, stepG_close (i := i) f1 f3 d7 hc8, quits f1 f6⟩
      · cases hk
    · cases hk
  · cases hk
end
end Go.Det
namespace Go.Det
open Go.Conc

theorem noPipe_get : ∀ {h : Heap}, noPipe h = true → ∀ i vs, h.get i ≠ some (.pipe vs)
  | .leaf, _, i, vs => by simp [Tr.get]
  | .node v a b c d, e, i, vs => by
    unfold noPipe at e
    split at e
    · cases e
    · rename_i hv
      split at e
      · cases e
      · rename_i ha
        split at e
        · cases e
        · rename_i hb
          split at e
          · cases e
          · rename_i hc
            intro hg
            cases i with
            | zero =>
              have : v = some (.pipe vs) := hg
              subst this
              cases hv
            | succ m =>
              simp only [Tr.get] at hg
              split at hg
              · exact noPipe_get ha _ _ hg
              · exact noPipe_get hb _ _ hg
              · exact noPipe_get hc _ _ hg
              · exact noPipe_get e _ _ hg

theorem orderH_get {i : OrdI} {s : Addr} {h h4 : Heap} {n : Nat} (e : orderH i s h n = some h4) :
    ∃ h1 h2 h3, hput h n (.cells i.tb [.pointer (some s)] none false) = some h1 ∧ hput h1 (n + 1) .chan0 = some h2 ∧ hput h2 (n + 2) (.cells i.tc [.chan none] none false) = some h3 ∧ storeN h3 ⟨n + 2, 0, none⟩ [.chan (some (n + 1))] = some h4 ∧
    ∀ j, h4.get j = if j = n then some (.cells i.tb [.pointer (some s)] none false) else if j = n + 1 then some .chan0 else if j = n + 2 then some (.cells i.tc [.chan (some (n + 1))] none false) else h.get j := by
  unfold orderH at e
  split at e
  · cases e
  · rename_i h1 e1
    split at e
    · cases e
    · rename_i h2 e2
      split at e
      · cases e
      · rename_i h3 e3
        refine ⟨h1, h2, h3, e1, e2, e3, e, fun j => ?_⟩
        have g3 : Tr.get h3 (n + 2) = some (.cells i.tc [.chan none] none false) := by rw [hput_get e3, if_pos rfl]
        have e4 : hput h3 (n + 2) (.cells i.tc [.chan (some (n + 1))] none false) = some h4 := by
          have : storeN h3 ⟨n + 2, 0, none⟩ [.chan (some (n + 1))] = hput h3 (n + 2) (.cells i.tc [.chan (some (n + 1))] none false) := by
            unfold storeN
            dsimp only
            rw [g3]
            rfl
          rw [← this]; exact e
        rw [hput_get e4, hput_get e3, hput_get e2, hput_get e1]
        by_cases h0 : j = n
        · subst h0; rw [if_neg (by omega), if_neg (by omega), if_neg (by omega), if_pos rfl, if_pos rfl]
        · by_cases h1' : j = n + 1
          · subst h1'; rw [if_neg (by omega), if_neg (by omega), if_pos rfl, if_neg h0, if_pos rfl]
          · by_cases h2' : j = n + 2
            · subst h2'; rw [if_pos rfl, if_neg h0, if_neg h1', if_pos rfl]
            · rw [if_neg h2', if_neg h2', if_neg h1', if_neg h0, if_neg h0, if_neg h1', if_neg h2']

/-- goroutine 0's leave, once it has started the sender -/
def lessPm (pm : Perm) (b : Nat) (R : Nat → Prop) : Perm := ⟨fun c => pm.rd c ∧ c ≠ b, fun c => pm.wr c ∧ c ≠ b ∧ ¬ R c⟩
def onlyRd (R : Nat → Prop) : Perm := ⟨R, fun _ => False⟩

/-- all that the go statement of order stands on -/
structure Ord (i : OrdI) (s : Addr) (rs : List Nat) (us : List Value) (h : Heap) (n : Nat) (h4 h8 h9 : Heap) : Prop where
  get : ∀ j, h4.get j = if j = n then some (.cells i.tb [.pointer (some s)] none false) else if j = n + 1 then some .chan0 else if j = n + 2 then some (.cells i.tc [.chan (some (n + 1))] none false) else h.get j
  marks : marks h4 (n :: (n + 2) :: rs) = some h8
  pipe : hput h8 (n + 1) (.pipe us) = some h9
  nop : ∀ c vs, h.get c ≠ some (.pipe vs)

section
variable {i : OrdI} {s : Addr} {rs : List Nat} {us : List Value} {h : Heap} {n : Nat} {h4 h8 h9 : Heap} (O : Ord i s rs us h n h4 h8 h9)
include O
theorem Ord.nin : n + 1 ∉ n :: (n + 2) :: rs := by
  intro hm
  obtain ⟨el, cs, fx, ro, g1, _⟩ := (marks_get O.marks).2 (n + 1) hm
  rw [O.get, if_neg (by omega), if_pos rfl] at g1
  cases g1
theorem Ord.nop4 (c : Nat) (vs : List Value) : h4.get c ≠ some (.pipe vs) := by
  rw [O.get]
  by_cases h0 : c = n
  · rw [if_pos h0]; intro e; cases e
  · by_cases h1 : c = n + 1
    · rw [if_neg h0, if_pos h1]; intro e; cases e
    · by_cases h2 : c = n + 2
      · rw [if_neg h0, if_neg h1, if_pos h2]; intro e; cases e
      · rw [if_neg h0, if_neg h1, if_neg h2]; exact O.nop c vs
/-- what stands where -/
theorem Ord.cases9 {j : Nat} {o : AObj} (hj : h9.get j = some o) :
    (j = n + 1 ∧ o = .pipe us) ∨ (j ∈ n :: (n + 2) :: rs ∧ ∃ el cs fx ro, h4.get j = some (.cells el cs fx ro) ∧ o = .cells el cs fx true) ∨ (j ∉ n :: (n + 2) :: rs ∧ j ≠ n + 1 ∧ h4.get j = some o) := by
  rw [hput_get O.pipe] at hj
  split at hj
  · rename_i e; cases hj; exact .inl ⟨e, rfl⟩
  · rename_i e
    obtain ⟨a1, a2⟩ := marks_get O.marks
    by_cases hm : j ∈ n :: (n + 2) :: rs
    · obtain ⟨el, cs, fx, ro, b1, b2⟩ := a2 j hm
      rw [b2] at hj
      cases hj
      exact .inr (.inl ⟨hm, el, cs, fx, ro, b1, rfl⟩)
    · rw [a1 j hm] at hj
      exact .inr (.inr ⟨hm, e, hj⟩)
theorem Ord.some4 {j : Nat} {o : AObj} (hj : h9.get j = some o) : ∃ o', h4.get j = some o' := by
  rcases O.cases9 hj with ⟨rfl, _⟩ | ⟨_, el, cs, fx, ro, g, _⟩ | ⟨_, _, g⟩
  · exact ⟨_, by rw [O.get, if_neg (by omega), if_pos rfl]⟩
  · exact ⟨_, g⟩
  · exact ⟨_, g⟩
variable {ρ : Ren} {w : World} {pm : Perm} (S : Sim ρ h4 w pm) {m1 : Img} (hm1 : ρ (n + 1) = some m1)
def rdSet (ρ : Ren) (l : List Nat) : Nat → Prop := fun c => ∃ j m, j ∈ l ∧ ρ j = some m ∧ m.b = c
include S hm1
theorem Ord.chan : There ρ w pm m1 .chan0 := S.at' (n + 1) m1 .chan0 hm1 (by rw [O.get, if_neg (by omega), if_pos rfl])
theorem Ord.ne {j : Nat} {m : Img} {o : AObj} (hj : ρ j = some m) (ho : h4.get j = some o) (hne : j ≠ n + 1) : m.b ≠ m1.b := fun e =>
  hne (S.inj j (n + 1) m m1 o .chan0 hj hm1 ho (by rw [O.get, if_neg (by omega), if_pos rfl]) e)
theorem Ord.rd {c : Nat} (hc : rdSet ρ (n :: (n + 2) :: rs) c) : pm.rd c ∧ c ≠ m1.b := by
  obtain ⟨j, m, hj, hm, rfl⟩ := hc
  obtain ⟨el, cs, fx, ro, g, _⟩ := (marks_get O.marks).2 j hj
  have t := S.at' j m _ hm g
  obtain ⟨_, _, _, t3, _⟩ := t.get (by intro vs e; cases e)
  exact ⟨t3, O.ne S hm1 hm g (fun e => O.nin (e ▸ hj))⟩
/-- the state behind the go statement -/
theorem Ord.sim9 : Sim ρ h9 w (lessPm pm m1.b (rdSet ρ (n :: (n + 2) :: rs))) := by
  refine ⟨S.glob, fun j m o hj ho => ?_, fun j k m m' o o' hj hk ho ho' e => ?_⟩
  · rcases O.cases9 ho with ⟨rfl, rfl⟩ | ⟨hm, el, cs, fx, ro, g, rfl⟩ | ⟨hm, hne, g⟩
    · rw [hm1] at hj; cases hj
      exact (O.chan S hm1).lt
    · have t := S.at' j m _ hj g
      obtain ⟨ob, t1, t2, t3, _⟩ := t.get (by intro vs e; cases e)
      refine There.of t1 ?_ ⟨t3, O.ne S hm1 hj g (fun e => O.nin (e ▸ hm))⟩ (by intro x; cases x)
      cases ob <;> simp only [ORel] at t2 ⊢
      exact ⟨t2.1, t2.2.1, t2.2.2.1, t2.2.2.2.1, fun x => by cases x⟩
    · have t := S.at' j m o hj g
      by_cases hp : ∀ vs, o ≠ .pipe vs
      · obtain ⟨ob, t1, t2, t3, t4⟩ := t.get hp
        refine There.of t1 t2 ⟨t3, O.ne S hm1 hj g hne⟩ fun x => ⟨t4 x, O.ne S hm1 hj g hne, ?_⟩
        rintro ⟨j', m', hj', hm', e'⟩
        obtain ⟨el, cs, fx, ro, g', _⟩ := (marks_get O.marks).2 j' hj'
        have := S.inj j j' m m' o _ hj hm' g g' e'.symm
        subst this
        exact hm hj'
      · cases o with
        | pipe vs => exact t
        | _ => exact absurd (fun vs e => by cases e) hp
  · obtain ⟨o1, g1⟩ := O.some4 ho
    obtain ⟨o2, g2⟩ := O.some4 ho'
    exact S.inj j k m m' o1 o2 hj hk g1 g2 e
/-- .. as the sender sees it -/
theorem Ord.simC {hc : Heap} (e : pickH h9 (n :: (n + 1) :: (n + 2) :: rs) = some hc) : Sim ρ hc w (onlyRd (rdSet ρ (n :: (n + 2) :: rs))) := by
  obtain ⟨p1, p2⟩ := pickH_get e
  refine ⟨S.glob, fun j m o hj ho => ?_, fun j k m m' o o' hj hk ho ho' e => ?_⟩
  · obtain ⟨q1, q2⟩ := p1 j o ho
    rcases O.cases9 q2 with ⟨rfl, rfl⟩ | ⟨hm, el, cs, fx, ro, g, rfl⟩ | ⟨hm, hne, g⟩
    · rw [hm1] at hj; cases hj
      exact (O.chan S hm1).lt
    · have t := S.at' j m _ hj g
      obtain ⟨ob, t1, t2, t3, _⟩ := t.get (by intro vs e; cases e)
      refine There.of t1 ?_ ⟨j, m, hm, hj, rfl⟩ (by intro x; cases x)
      cases ob <;> simp only [ORel] at t2 ⊢
      exact ⟨t2.1, t2.2.1, t2.2.2.1, t2.2.2.2.1, fun x => by cases x⟩
    · exfalso
      simp only [List.mem_cons, not_or] at q1 hm
      obtain ⟨a1, a2, a3⟩ := hm
      rcases q1 with x | x | x | x
      · exact a1 x
      · exact hne x
      · exact a2 x
      · exact a3 x
  · obtain ⟨o1, g1⟩ := O.some4 (p1 j o ho).2
    obtain ⟨o2, g2⟩ := O.some4 (p1 k o' ho').2
    exact S.inj j k m m' o1 o2 hj hk g1 g2 e
end

section
variable {i : OrdI} {s : Addr} {rs : List Nat} {us : List Value} {h : Heap} {n : Nat} {h4 h8 h9 : Heap} (O : Ord i s rs us h n h4 h8 h9)
include O
/-- goroutine 0's run over the go statement -/
theorem Ord.runs {ρ ρ4 : Ren} {w w4 : World} {pm pm4 : Perm} (hpmo : PmOk pm w) (low : ∀ i, n ≤ i → h.get i = none) (r : Runs ρ h w pm n ρ4 h4 w4 pm4 (n + 3)) {m1 : Img} (hm1 : ρ4 (n + 1) = some m1) :
    Runs ρ h w pm n ρ4 h9 w4 (lessPm pm4 m1.b (rdSet ρ4 (n :: (n + 2) :: rs))) (n + 3) := by
  have S := r.sim
  have old : ∀ j o, h.get j = some o → h4.get j = some o := fun j o hj => by
    have : j < n := by
      rcases Nat.lt_or_ge j n with x | x
      · exact x
      · rw [low j x] at hj; cases hj
    rw [O.get, if_neg (by omega), if_neg (by omega), if_neg (by omega)]; exact hj
  have out : ∀ j, ¬ (n ≤ j ∧ j < n + 3) → h4.get j = h.get j := fun j hj => by rw [O.get, if_neg (by omega), if_neg (by omega), if_neg (by omega)]
  have bnew : w.heap.size ≤ m1.b := by
    rcases r.imgs (n + 1) m1 (by omega) (by omega) hm1 with x | ⟨j, m0, o, y1, y2, y3, y4⟩
    · exact x
    · exfalso
      refine O.ne S hm1 (r.le _ _ y1) (old j o y2) ?_ y4
      rintro rfl
      rw [low _ (by omega)] at y2; cases y2
  refine ⟨r.le, r.off, O.sim9 S hm1, r.size, fun c hc => ⟨r.rd c hc, ?_⟩, fun c hc => r.rd' c hc.1, fun c hc => r.wr c hc.1, r.world, r.old, r.frame, r.imgs, fun j hj hr => ?_, r.nle, fun j m o o' hr hj ho hro ho' => ?_, fun c hc hw hf => ⟨r.kwr c hc hw hf, by omega, ?_⟩⟩
  · have := hpmo.rd c hc; omega
  · cases hq : h9.get j with
    | none => rfl
    | some o =>
      obtain ⟨o', g⟩ := O.some4 hq
      rw [out j hr, hj] at g; cases g
  · rcases O.cases9 ho' with ⟨rfl, rfl⟩ | ⟨_, el, cs, fx, ro, g, rfl⟩ | ⟨_, _, g⟩
    · rfl
    · rfl
    · rw [out j hr, ho] at g; cases g; exact hro
  · rintro ⟨j, m, hj, hm, e⟩
    by_cases hr : n ≤ j ∧ j < n + 3
    · rcases r.imgs j m hr.1 hr.2 hm with x | ⟨j0, m0, o, y1, y2, y3, y4⟩
      · omega
      · exact hf j0 m0 o y1 y2 (y4.trans e)
    · obtain ⟨el, cs, fx, ro, g, _⟩ := (marks_get O.marks).2 j hj
      rw [out j hr] at g
      exact hf j m _ (by rw [← r.off j hr]; exact hm) g e
end
end Go.Det
namespace Go.Det
open Go.Conc

structure OrderFn (P : Program) (fo : Nat) (i : OrdI) : Prop where
  ex : ∃ (fn : Func) (i0 i1 i2 i3 : Nat) (a b c d e f g j l : Oper), P.funcs[fo]? = some fn ∧ (fn.name == "runtime.NumGoroutine") = false ∧
    fn.body = some (.seq (.region i0 #[a, b] false) (.seq (.region i1 #[c, d, e] false) (.seq (.region i2 #[f, g] false) (.seq (.region i3 #[j, l] false) .ret)))) ∧ fn.ntmps = 7 ∧ fn.results = #[.tmp 2] ∧
    IsOp a (some 1) (.box i.tb (.tmp 0)) ∧ IsOp b (some 2) (.assign (.const (.chan none))) ∧
    IsOp c (some 4) (.makeChan i.tc (.const (.int .i64 0))) ∧ IsOp d (some 3) (.alloc i.tc) ∧ IsOp e none (.store i.tc (.tmp 3) (.tmp 4)) ∧
    IsOp f (some 5) (.makeFunc (.func i.child) #[] #[.tmp 3, .tmp 1]) ∧ IsOp g none (.go { callee := .value (.tmp 5), args := #[], argTypes := #[] }) ∧
    IsOp j (some 6) (.load i.tc (.tmp 3)) ∧ IsOp l (some 2) (.assign (.tmp 6))

section
variable {P : Program} {i : OrdI}
/-- the go statement -/
theorem stepG_goFn {b0 : Frame} {a : Act} {k : List Item} {cs : List Frame} {ops : Array Oper} {j : Nat} {rest : List Nat} {o : Oper} {us : Array Value} (ho : ops[j]? = some o) (hk : b0.kind ≠ .early) (hy : IsOp o none (.go { callee := .value (.tmp 5), args := #[], argTypes := #[] }))
    (hc : a.eval (.tmp 5) = .func (.func i.child) #[] us) (w : World) :
    stepG P true (G (b0.at a (.inRegion ops (j :: rest) :: k)) cs) w = .spawn (G (b0.at a (.inRegion ops rest :: k)) cs) (born P (goD i us)) w #[] := by
  have hw : Region.wanted o (yielded ops a.tmps) = true := by unfold Region.wanted; rw [hy.guard]
  have hrT : (execOp a.eval o).runT P w #[] = (.ok (.spawn (goD i us)) w, #[]) := by
    unfold execOp
    simp only [hy.op, resolve, hc]
    have : (#[] : Array Operand).map a.eval = #[] := by simp
    rw [this]
    rfl
  obtain ⟨hr, he⟩ := run_of hrT
  rw [stepG_spawn (f := .func i.child) (c := us) ho hw hk hr rfl]
  unfold listed
  rw [he, seen_none]
  have : a.put o.dst undef = a := by rw [hy.dst]; rfl
  rw [this]
end

section
variable {P : Program} {Post : Value → World → Prop} {T : Tbl} (K : TblOk P T) (hT : T.main = true) (hmix : P.follows .mixedOrders = true) {i : OrdI} {fo : Nat} (F : ChildFn P i) (G0 : OrderFn P fo i) (hct : ChanTy T i.tc)
include K hT hmix F G0 hct
theorem orderB_ok {s : Addr} {rs : List Nat} {us : List Value} {h : Heap} {n : Nat} {v : Value} {h' : Heap} {n' : Nat} (e : orderB P T i s rs us h n = some (v, h', n'))
    {σ : Stage} {ρ : Ren} {pm : Perm} {w : World} {b : Frame} {a : Act} {k : List Item} {cs : List Frame} {ops : Array Oper} {j N : Nat} {rest : List Nat} {o : Oper} (A : At P (ctx0 P Post) σ ρ h w pm n N) (hN : n' ≤ N)
    (ho : ops[j]? = some o) (hw : Region.wanted o (yielded ops a.tmps) = true) (hk : b.kind ≠ .early) (hc : ∀ w₁, Rely pm w w₁ → OpCall P ρ w₁ pm (execOp a.eval o) fo [.pointer (some s)])
    (hK : Behind P (ctx0 P Post) ρ h w pm n v h' n' (fun σ' pm' w' u => (ctx0 P Post).Go σ' pm' (G (b.at (a.put o.dst u) (.inRegion ops rest :: k)) cs) w')) :
    (ctx0 P Post).Go σ pm (G (b.at a (.inRegion ops (j :: rest) :: k)) cs) w := by
  obtain ⟨cd, ce, cb, cte, hty, hte⟩ := hct
  obtain ⟨fn, i0, i1, i2, i3, xa, xb, xc, xd, xe, xf, xg, xj, xl, g1, g2, g3, g4, g5, ha, hb, hcc, hd, he, hf, hg, hj, hl⟩ := G0.ex
  unfold orderB at e
  split at e
  · rename_i h4 hnp e4
    split at e
    · cases e
    · rename_i h8 e8
      split at e
      · cases e
      · rename_i h9 e9
        split at e
        · rename_i hchild
          simp only [Option.some.injEq, Prod.mk.injEq] at e
          obtain ⟨rfl, rfl, rfl⟩ := e
          have hNn : n + 3 ≤ N := hN
          obtain ⟨h1, h2, h3, p1, p2, p3, p4, pg⟩ := orderH_get e4
          have O : Ord i s rs us h n h4 h8 h9 := ⟨pg, e8, e9, noPipe_get hnp⟩
          have RO : RecvOk T (ctx0 P Post) := recv0_ok hT
          -- no channel stands open
          obtain rfl : σ = none := by
            match σ, A.stage with
            | none, _ => rfl
            | some (b0, us0), ⟨c, m, _, _, q3, _⟩ => exact absurd q3 (O.nop c us0)
          refine (ctx0 P Post).enter ho hw hk g1 g2 g3 hc fun w1 us0 r1 hus => ?_
          rw [enter_at _ g1 g3]
          obtain ⟨u0, us', rfl, q1, q2⟩ := hus.cons_inv
          obtain rfl := q2.nil_inv
          have kn : (base fo).kind ≠ .early := show CallKind.normal ≠ .early by decide
          have A1 := A.rely r1
          have R1 : TRel ρ 7 (initT [.pointer (some s)] 0) (⟨⟨[u0]⟩ ++ Array.replicate (fn.ntmps - (⟨[u0]⟩ : Array Value).size) undef, []⟩ : Act) := by
            refine ⟨by simp [g4], fun t x hx => ?_⟩
            obtain ⟨_, q2⟩ := initT_get _ _ _ _ hx
            rw [Nat.sub_zero] at q2
            obtain ⟨u, hu, hr⟩ := (VRels.cons q1 .nil).at' q2
            refine ⟨u, ?_, hr⟩
            have hlt := (List.getElem?_eq_some_iff.1 hu).1
            rw [Array.getElem?_append_left (by simpa using hlt)]
            simpa using hu
          refine (ctx0 P Post).ctl rfl (fun w => stepG_seq) fun w2 r2 => ?_
          -- region 0
          have E0 : aOps P T call0 7 (#[xa, xb] : Array Oper).toList (#[xa, xb] : Array Oper).toList (initT [.pointer (some s)] 0) h n = some (.cons 2 (.chan none) (.cons 1 (.pointer (some ⟨n, 0, none⟩)) (initT [.pointer (some s)] 0)), h1, n + 1) := by
            show aOps P T call0 7 [xa, xb] [xa, xb] _ h n = _
            rw [aOps_cons (oc_of ha rfl) (tm' := .cons 1 (.pointer (some ⟨n, 0, none⟩)) (initT [.pointer (some s)] 0)) (hp' := h1) (n' := n + 1), aOps_cons (oc_of hb rfl) (tm' := .cons 2 (.chan none) (.cons 1 (.pointer (some ⟨n, 0, none⟩)) (initT [.pointer (some s)] 0))) (hp' := h1) (n' := n + 1)]
            · rfl
            · rfl
            · show laidA 7 (some 1) _ (uponA call0 h n (newA h n (.cells i.tb [.pointer (some s)] none false) (.pointer (some ⟨n, 0, none⟩)))) = _
              unfold newA
              rw [p1]
              rfl
          refine region_seq K mono0 (ok0 _) RO kn E0 (A1.rely r2) (by omega) R1 fun σ3 ρ3 pm3 w3 a3 r3 s3 R3 d3 => ?_
          have A3 := r3.at (A1.rely r2) s3
          refine (ctx0 P Post).ctl rfl (fun w => stepG_seq) fun w4 r4 => ?_
          -- region 1
          have E1 : aOps P T call0 7 (#[xc, xd, xe] : Array Oper).toList (#[xc, xd, xe] : Array Oper).toList (.cons 2 (.chan none) (.cons 1 (.pointer (some ⟨n, 0, none⟩)) (initT [.pointer (some s)] 0))) h1 (n + 1) =
              some (.cons 3 (.pointer (some ⟨n + 2, 0, none⟩)) (.cons 4 (.chan (some (n + 1))) (.cons 2 (.chan none) (.cons 1 (.pointer (some ⟨n, 0, none⟩)) (initT [.pointer (some s)] 0)))), h4, n + 3) := by
            show aOps P T call0 7 [xc, xd, xe] [xc, xd, xe] _ h1 (n + 1) = _
            rw [aOps_cons (oc_of hcc rfl) (tm' := .cons 4 (.chan (some (n + 1))) (.cons 2 (.chan none) (.cons 1 (.pointer (some ⟨n, 0, none⟩)) (initT [.pointer (some s)] 0)))) (hp' := h2) (n' := n + 2),
              aOps_cons (oc_of hd rfl) (tm' := .cons 3 (.pointer (some ⟨n + 2, 0, none⟩)) (.cons 4 (.chan (some (n + 1))) (.cons 2 (.chan none) (.cons 1 (.pointer (some ⟨n, 0, none⟩)) (initT [.pointer (some s)] 0))))) (hp' := h3) (n' := n + 3),
              aOps_cons (oc_of he rfl) (tm' := .cons 3 (.pointer (some ⟨n + 2, 0, none⟩)) (.cons 4 (.chan (some (n + 1))) (.cons 2 (.chan none) (.cons 1 (.pointer (some ⟨n, 0, none⟩)) (initT [.pointer (some s)] 0))))) (hp' := h4) (n' := n + 3)]
            · rfl
            · show laidA 7 none _ (uponA call0 h3 (n + 3) (skipA (n + 3) (oStore T i.tc h3 (some (.pointer (some ⟨n + 2, 0, none⟩))) (some (.chan (some (n + 1))))))) = _
              have : oStore T i.tc h3 (some (.pointer (some ⟨n + 2, 0, none⟩))) (some (.chan (some (n + 1)))) = some h4 := by
                simp only [oStore, sizeT, hty]
                exact p4
              rw [this]
              rfl
            · show laidA 7 (some 3) _ (uponA call0 h2 (n + 2) (allocA h2 (n + 2) i.tc (zeroT T i.tc))) = _
              simp only [zeroT, hty, allocA, newA]
              rw [p3]
              rfl
            · show laidA 7 (some 4) _ (uponA call0 h1 (n + 1) (oMakeChan T i.tc h1 (n + 1) (some (.int .i64 0)))) = _
              have : oMakeChan T i.tc h1 (n + 1) (some (.int .i64 0)) = newA h1 (n + 1) .chan0 (.chan (some (n + 1))) := by
                show (match descT T i.tc with | some (.chan _ e) => (match T.ty e with | some _ => newA h1 (n + 1) .chan0 (.chan (some (n + 1))) | none => none) | _ => none) = _
                simp only [descT, hty, hte]
              rw [this]
              unfold newA
              rw [p2]
              rfl
          refine region_seq K mono0 (ok0 _) RO kn E1 (A3.rely r4) (by omega) R3 fun σ5 ρ5 pm5 w5 a5 r5 s5 R5 d5 => ?_
          have A5 := r5.at (A3.rely r4) s5
          refine (ctx0 P Post).ctl rfl (fun w => stepG_seq) fun w6 r6 => ?_
          refine (ctx0 P Post).ctl rfl (fun w => stepG_region) fun w7 r7 => ?_
          have A7 := (A5.rely r6).rely r7
          -- the function
          have e6 : laidA 7 (some 5) (.cons 3 (.pointer (some ⟨n + 2, 0, none⟩)) (.cons 4 (.chan (some (n + 1))) (.cons 2 (.chan none) (.cons 1 (.pointer (some ⟨n, 0, none⟩)) (initT [.pointer (some s)] 0))))) (uponA call0 h4 (n + 3) (valA h4 (n + 3) (some (.func (.func i.child) ⟨[]⟩ ⟨[.pointer (some ⟨n + 2, 0, none⟩), .pointer (some ⟨n, 0, none⟩)]⟩)))) =
              some (.cons 5 (.func (.func i.child) ⟨[]⟩ ⟨[.pointer (some ⟨n + 2, 0, none⟩), .pointer (some ⟨n, 0, none⟩)]⟩) (.cons 3 (.pointer (some ⟨n + 2, 0, none⟩)) (.cons 4 (.chan (some (n + 1))) (.cons 2 (.chan none) (.cons 1 (.pointer (some ⟨n, 0, none⟩)) (initT [.pointer (some s)] 0))))), h4, n + 3) := rfl
          refine one_op K (ok0 _) RO (ops := #[xf, xg]) (i := 0) (rest := [1]) (o := xf) rfl (oc_of hf rfl) e6 A7 hNn R5 kn fun σ8 ρ8 pm8 w8 a8 r8 s8 R8 d8 => ?_
          have A8 := r8.at A7 s8
          -- what has become of the state since the call
          have rT : Runs ρ h w pm n ρ8 h4 w8 pm8 (n + 3) := (((((Runs.rely A.sim (r1.trans r2) n).trans r3).trans (Runs.rely A3.sim r4 _)).trans r5).trans (Runs.rely A5.sim (r6.trans r7) _)).trans r8
          obtain rfl : σ8 = none := by
            match σ8, A8.stage with
            | none, _ => rfl
            | some (b0, us0), ⟨c, m, _, _, q3, _⟩ =>
              exact absurd q3 (O.nop4 c us0)
          obtain ⟨u5, hu5, hv5⟩ := R8.get 5 _ rfl
          obtain ⟨u4, hu4, hv4⟩ := R8.get 4 _ rfl
          obtain ⟨u3, hu3, hv3⟩ := R8.get 3 _ rfl
          obtain ⟨u1, hu1, hv1⟩ := R8.get 1 _ rfl
          have he5 : a8.eval (.tmp 5) = u5 := by simp [Act.eval, hu5]
          cases hv4 with
          | chan hm1 =>
          rename_i m1
          cases hv5 with
          | func l1 c1 l2 c2 =>
          rename_i fa fb
          obtain rfl : fa = [] := by
            cases fa with
            | nil => rfl
            | cons _ _ => exact absurd l1 (by simp)
          obtain ⟨y3, y1, rfl⟩ : ∃ y3 y1, fb = [y3, y1] := by
            match fb, l2 with
            | [p, q], _ => exact ⟨p, q, rfl⟩
          have z3 : VRel ρ8 (.pointer (some ⟨n + 2, 0, none⟩)) y3 := c2 0 _ _ rfl rfl
          have z1 : VRel ρ8 (.pointer (some ⟨n, 0, none⟩)) y1 := c2 1 _ _ rfl rfl
          have ch := O.chan A8.sim hm1
          obtain ⟨ob, t1, t2, t3, t4⟩ := ch.get (by intro vs e; cases e)
          have t4 := t4 rfl
          have hch : ∃ sn rc tm, w8.heap[m1.b]? = some (.chan 0 #[] false sn rc tm) := by
            cases ob <;> simp only [ORel] at t2
            obtain ⟨_, rfl, rfl, rfl⟩ := t2
            exact ⟨_, _, _, t1⟩
          show Go0 P Post none pm8 _ w8
          refine go0_spawn (b := m1.b) (us := us) (pmc := onlyRd (rdSet ρ8 (n :: (n + 2) :: rs))) (pm' := lessPm pm8 m1.b (rdSet ρ8 (n :: (n + 2) :: rs))) rfl (fun w₁ r => stepG_goFn (i := i) (ops := #[xf, xg]) (j := 1) (us := #[y3, y1]) rfl kn hg he5 w₁) hch ⟨t3, t4⟩ (fun c hc => hc) (fun c hc => hc) (fun c hc => O.rd A8.sim hm1 hc) (fun c hc => hc) (fun w₁ r => ?_) fun w9 r9 => ?_
          · -- the sender
            have S9 := A8.sim.rely r
            refine child_snd K hmix F ⟨cd, ce, cb, cte, hty, hte⟩ hchild (fun hc hpick => ?_) ?_ ⟨by simp, by simp⟩ z3 z1
            · obtain ⟨k1, k2⟩ := pickH_get hpick
              refine ⟨O.simC S9 hm1 hpick, fun j h1 h2 => by omega, fun j hj => ?_, ⟨fun c hc => ?_, fun c hc => hc.elim⟩, n + 1, m1, hm1, rfl, ?_, fun c' m' vs hc' hg' => ?_⟩
              · cases hq : hc.get j with
                | none => rfl
                | some x =>
                  obtain ⟨x', hx'⟩ := O.some4 (k1 j x hq).2
                  rw [A8.low j hj] at hx'; cases hx'
              · exact (A8.pmo.size r.size).rd c (O.rd A8.sim hm1 hc).1
              · rw [k2 (n + 1) (by simp), hput_get e9, if_pos rfl]
              · rcases O.cases9 (k1 c' _ hg').2 with ⟨x, _⟩ | ⟨_, el, cs, fx, ro, _, x⟩ | ⟨_, _, x⟩
                · exact x
                · cases x
                · exact absurd x (O.nop4 c' vs)
            · obtain ⟨el, cs, fx, ro, b1, b2⟩ := (marks_get e8).2 (n + 2) (by simp)
              rw [pg, if_neg (by omega), if_neg (by omega), if_pos rfl] at b1
              cases b1
              rw [hput_get e9, if_neg (by omega)]
              exact b2
          · -- goroutine 0 goes on
            have rT9 := rT.trans (Runs.rely A8.sim r9 (n + 3))
            have rO := O.runs A.pmo A.low rT9 hm1
            have st9 : StageOk ρ8 h9 (some (m1.b, us)) := by
              refine ⟨n + 1, m1, hm1, rfl, by rw [hput_get e9, if_pos rfl], fun c' m' vs hc' hg' => ?_⟩
              rcases O.cases9 hg' with ⟨x, _⟩ | ⟨_, el, cs, fx, ro, _, x⟩ | ⟨_, _, x⟩
              · exact x
              · cases x
              · exact absurd x (O.nop4 c' vs)
            have A9 := rO.at A st9
            show (ctx0 P Post).Go (some (m1.b, us)) _ _ w9
            refine (ctx0 P Post).ctl rfl (fun w => stepG_region_end) fun w10 r10 => ?_
            refine (ctx0 P Post).ctl rfl (fun w => stepG_seq) fun w11 r11 => ?_
            have h92 : h9.get (n + 2) = some (.cells i.tc [.chan (some (n + 1))] none true) := by
              obtain ⟨el, cs, fx, ro, b1, b2⟩ := (marks_get e8).2 (n + 2) (by simp)
              rw [pg, if_neg (by omega), if_neg (by omega), if_pos rfl] at b1
              cases b1
              rw [hput_get e9, if_neg (by omega)]
              exact b2
            generalize htm : (Tmps.cons 5 (.func (.func i.child) ⟨[]⟩ ⟨[.pointer (some ⟨n + 2, 0, none⟩), .pointer (some ⟨n, 0, none⟩)]⟩) (.cons 3 (.pointer (some ⟨n + 2, 0, none⟩)) (.cons 4 (.chan (some (n + 1))) (.cons 2 (.chan none) (.cons 1 (.pointer (some ⟨n, 0, none⟩)) (initT [.pointer (some s)] 0)))))) = tm9 at R8
            have hev : ev tm9 (.tmp 3) = some (.pointer (some ⟨n + 2, 0, none⟩)) := by rw [← htm]; rfl
            have E3 : aOps P T call0 7 (#[xj, xl] : Array Oper).toList (#[xj, xl] : Array Oper).toList tm9 h9 (n + 3) = some (.cons 2 (.chan (some (n + 1))) (.cons 6 (.chan (some (n + 1))) tm9), h9, n + 3) := by
              show aOps P T call0 7 [xj, xl] [xj, xl] _ h9 (n + 3) = _
              rw [aOps_cons (oc_of hj rfl) (tm' := .cons 6 (.chan (some (n + 1))) tm9) (hp' := h9) (n' := n + 3), aOps_cons (oc_of hl rfl) (tm' := .cons 2 (.chan (some (n + 1))) (.cons 6 (.chan (some (n + 1))) tm9)) (hp' := h9) (n' := n + 3)]
              · rfl
              · rfl
              · show laidA 7 (some 6) tm9 (uponA call0 h9 (n + 3) (valA h9 (n + 3) (oLoad T i.tc h9 (ev tm9 (.tmp 3))))) = _
                rw [hev]
                have hl : oLoad T i.tc h9 (some (.pointer (some ⟨n + 2, 0, none⟩))) = some (.chan (some (n + 1))) := by
                  simp only [oLoad, loadT, shapeT, hty, loadN, h92]
                  rfl
                rw [hl]
                rfl
            refine region_seq K mono0 (ok0 _) RO kn E3 ((A9.rely r10).rely r11) hNn R8 fun σc ρc pmc wc ac rc sc Rc dc => ?_
            have Ac := rc.at ((A9.rely r10).rely r11) sc
            refine (ctx0 P Post).ctl rfl (fun w => stepG_ret') fun wd rd => ?_
            refine (ctx0 P Post).step rfl fun we re => ?_
            have hres : resultsA T fn.results.toList (.cons 2 (.chan (some (n + 1))) (.cons 6 (.chan (some (n + 1))) tm9)) h9 = some (.chan (some (n + 1))) := by rw [g5]; rfl
            obtain ⟨u, es, y1', y2', y3'⟩ := res_rel K (Ac.sim.rely (rd.trans re)) Rc hres
            have dfin : ac.defers = [] := by rw [dc, d8, d5, d3]
            have hs := stepG_leaveE (P := P) (b := base fo) (a := ac) (todo := .code .ret :: []) (cs := cs) (c := b.at a (.inRegion ops (j :: rest) :: k)) rfl dfin g1 (ctx0 P Post).main y1'
            refine ⟨_, _, _, pmc, hs, StepOk.refl _ _, evIn_seen y2', ?_⟩
            rw [Frame.finish_at, ho]
            exact hK σc ρc pmc we u (((rO.trans (Runs.rely A9.sim (r10.trans r11) _)).trans rc).trans (Runs.rely rc.sim (rd.trans re) _)) sc y3'
        · cases e
  · cases e
end
end Go.Det
namespace Go.Det
open Go.Conc

theorem orderB_mono {P : Program} {T : Tbl} {i : OrdI} {s : Addr} {rs : List Nat} {us : List Value} {h : Heap} {n : Nat} {v : Value} {h' : Heap} {n' : Nat} (e : orderB P T i s rs us h n = some (v, h', n')) : n ≤ n' := by
  unfold orderB at e
  split at e
  · split at e
    · cases e
    · split at e
      · cases e
      · split at e
        · cases e; show n ≤ n + 3; omega
        · cases e
  · cases e
theorem orderA_inv {P : Program} {T : Tbl} {i : OrdI} {args : List Value} {h : Heap} {n : Nat} {v : Value} {h' : Heap} {n' : Nat} (e : orderA P T i args h n = some (v, h', n')) : ∃ (s : Addr) (rs : List Nat) (us : List Value), args = [.pointer (some s)] ∧ orderB P T i s rs us h n = some (v, h', n') := by
  unfold orderA at e
  split at e
  · split at e
    · split at e
      · split at e
        · exact ⟨_, _, _, rfl, e⟩
        · cases e
      · exact ⟨_, _, _, rfl, e⟩
    · cases e
  · cases e

section
variable {P : Program} {T : Tbl} {i : OrdI} {fe fo : Nat}
theorem sp43_inv {g : Nat} {args : List Value} {h : Heap} {n : Nat} {v : Value} {h' : Heap} {n' : Nat} (e : sp43 P T fe fo i g args h n = some (some (v, h', n'))) :
    (g = fe ∧ args = [v] ∧ h' = h ∧ n' = n) ∨ (g = fo ∧ orderA P T i args h n = some (v, h', n')) := by
  unfold sp43 at e
  by_cases h1 : Nat.beq g fe = true
  · rw [h1] at e
    simp only [cond_true, Option.some.injEq] at e
    split at e
    · cases e; exact .inl ⟨Nat.eq_of_beq_eq_true h1, rfl, rfl, rfl⟩
    · cases e
  · simp only [Bool.not_eq_true] at h1
    rw [h1] at e
    simp only [cond_false] at e
    by_cases h2 : Nat.beq g fo = true
    · rw [h2] at e
      simp only [cond_true, Option.some.injEq] at e
      exact .inr ⟨Nat.eq_of_beq_eq_true h2, e⟩
    · simp only [Bool.not_eq_true] at h2
      rw [h2] at e
      cases e
theorem sp43_mono : MonoS (sp43 P T fe fo i) := by
  intro g args h n v h' n' e
  rcases sp43_inv e with ⟨_, _, _, rfl⟩ | ⟨_, e⟩
  · exact Nat.le_refl _
  · obtain ⟨s, rs, us, _, e⟩ := orderA_inv e; exact orderB_mono e
variable {Post : Value → World → Prop} (K : TblOk P T) (hT : T.main = true) (hmix : P.follows .mixedOrders = true) (F : ChildFn P i) (F0 : SameFn P fe) (G0 : OrderFn P fo i) (hct : ChanTy T i.tc)
include K hT hmix F F0 G0 hct
theorem sp43_ok : SpOk (ctx0 P Post) (sp43 P T fe fo i) := by
  intro g args h n v h' n' e σ ρ pm w b a k cs ops j N rest o A hN ho hw hk hc hK
  rcases sp43_inv e with ⟨rfl, rfl, rfl, rfl⟩ | ⟨rfl, e2⟩
  · exact same_ok F0 A ho hw hk hc hK
  · obtain ⟨s, rs, us, rfl, e3⟩ := orderA_inv e2
    exact orderB_ok K hT hmix F G0 hct e3 A hN ho hw hk hc hK
end
end Go.Det
namespace Go.Det
open Go.Conc

theorem veqL_eq : ∀ {a b : List Value}, veqL a b = true → a = b
  | [], [], _ => rfl
  | [], _ :: _, h => by cases h
  | _ :: _, [], h => by cases h
  | x :: a, y :: b, h => by
    unfold veqL at h
    split at h
    · rename_i hx; rw [veq_eq hx, veqL_eq h]
    · cases h
theorem veqT_eq {u v : Value} (h : veqT u v = true) : u = v := by
  unfold veqT at h
  split at h
  · rename_i a b; obtain ⟨a⟩ := a; obtain ⟨b⟩ := b; rw [show a = b from veqL_eq h]
  · exact veq_eq h
theorem like_inv {o o' : AObj} (h : like o o' = true) : ∃ e cs fx ro, o = .cells e cs fx true ∧ o' = .cells e cs fx ro := by
  cases o with
  | cells e cs fx ro0 =>
    cases ro0 with
    | false => cases h
    | true =>
      cases o' with
      | cells e' cs' fx' ro' =>
        have h : (match veqs cs cs' with | true => Nat.beq e e' && fxEq fx fx' | false => false) = true := h
        split at h
        · rename_i hv
          rw [Bool.and_eq_true] at h
          have q1 := veqs_eq hv
          have q2 := Nat.eq_of_beq_eq_true h.1
          have q3 : fx = fx' := by
            have h2 := h.2
            cases fx with
            | none => cases fx' with
              | none => rfl
              | some _ => cases h2
            | some a => cases fx' with
              | none => cases h2
              | some b => rw [Nat.eq_of_beq_eq_true (show Nat.beq a b = true from h2)]
          subst q1 q2 q3
          exact ⟨_, _, _, _, rfl, rfl⟩
        · cases h
      | _ => cases h
  | _ => cases h
theorem patIn_get {h : Heap} : ∀ {l : List (Nat × AObj)}, patIn h l = true → ∀ i o, (i, o) ∈ l → ∃ e cs fx ro, o = .cells e cs fx true ∧ h.get i = some (.cells e cs fx ro)
  | [], _, i, o, hm => by cases hm
  | (j, x) :: l, e, i, o, hm => by
    unfold patIn at e
    split at e
    · rename_i o' ho'
      split at e
      · rename_i hl
        rcases List.mem_cons.1 hm with h1 | h1
        · cases h1
          obtain ⟨e', cs, fx, ro, h2, h3⟩ := like_inv hl
          exact ⟨e', cs, fx, ro, h2, by rw [← h3]; exact ho'⟩
        · exact patIn_get e i o h1
      · cases e
    · cases e
theorem putsH_get : ∀ {l : List (Nat × AObj)} {h h' : Heap}, putsH h l = some h' → ∀ i, (h'.get i = h.get i ∧ ∀ o, (i, o) ∉ l) ∨ ∃ o, (i, o) ∈ l ∧ h'.get i = some o
  | [], h, h', e, i => by cases e; exact .inl ⟨rfl, fun o hm => by cases hm⟩
  | (j, x) :: l, h, h', e, i => by
    unfold putsH at e
    split at e
    · rename_i h1 e1
      rcases putsH_get e i with ⟨a, b⟩ | ⟨o, a, b⟩
      · rw [hput_get e1] at a
        by_cases hij : i = j
        · subst hij
          rw [if_pos rfl] at a
          exact .inr ⟨x, by simp, a⟩
        · rw [if_neg hij] at a
          refine .inl ⟨a, fun o hm => ?_⟩
          rcases List.mem_cons.1 hm with h1 | h1
          · cases h1; exact hij rfl
          · exact b o h1
      · exact .inr ⟨o, by simp [a], b⟩
    · cases e
theorem outsIn_get {n n' : Nat} {h : Heap} : ∀ {l : List (Nat × AObj)}, outsIn n n' h l = true → ∀ i o, (i, o) ∈ l → n ≤ i ∧ i < n' ∧ h.get i = some o ∧ isCells o = true
  | [], _, i, o, hm => by cases hm
  | (j, x) :: l, e, i, o, hm => by
    unfold outsIn at e
    split at e
    · rename_i hb
      rw [Bool.and_eq_true, Bool.and_eq_true] at hb
      split at e
      · rename_i o' ho'
        split at e
        · rename_i he
          rcases List.mem_cons.1 hm with h1 | h1
          · cases h1
            exact ⟨Nat.le_of_ble_eq_true hb.1, lt_of_blt hb.2.1, by rw [ho', aeq_eq he], hb.2.2⟩
          · exact outsIn_get e i o h1
        · cases e
      · cases e
    · cases e
theorem findCan_inv {g n : Nat} : ∀ {cs : List Can} {c : Can}, findCan g n cs = some c → c ∈ cs ∧ c.g = g ∧ c.n = n
  | [], c, e => by cases e
  | x :: r, c, e => by
    unfold findCan at e
    split at e
    · rename_i hb
      rw [Bool.and_eq_true] at hb
      cases e
      exact ⟨by simp, Nat.eq_of_beq_eq_true hb.2, Nat.eq_of_beq_eq_true hb.1⟩
    · obtain ⟨a, b⟩ := findCan_inv e
      exact ⟨by simp [a], b⟩
theorem canA_inv {c : Can} {args : List Value} {h : Heap} {v : Value} {h' : Heap} {n' : Nat} (e : canA c args h = some (v, h', n')) :
    args = c.args ∧ patIn h c.pat = true ∧ noPipe h = true ∧ (∃ h1, putsH h c.pat = some h1 ∧ putsH h1 c.outs = some h') ∧ v = c.v ∧ n' = c.n' := by
  unfold canA at e
  split at e
  · rename_i e1
    split at e
    · rename_i e2
      split at e
      · rename_i e3
        split at e
        · rename_i h1 e4
          split at e
          · rename_i h2 e5
            cases e
            exact ⟨veqL_eq e1, e2, e3, ⟨h1, e4, e5⟩, rfl, rfl⟩
          · cases e
        · cases e
      · cases e
    · cases e
  · cases e
theorem canOk_inv {P : Program} {T : Tbl} {sp : Sp} {F : Nat} {c : Can} (e : canOk P T sp F c = true) :
    ∃ fn hc hc', T.fn c.g = some fn ∧ putsH .leaf c.pat = some hc ∧ bodyA T (aRun P T sp F) fn c.args hc c.n = some (c.v, hc', c.n') ∧ noPipe hc' = true ∧ outsIn c.n c.n' hc' c.outs = true := by
  unfold canOk at e
  split at e
  · rename_i fn hf
    split at e
    · split at e
      · rename_i hc hh
        unfold canR at e
        split at e
        · rename_i v h' n' hb
          split at e
          · rename_i e1
            split at e
            · rename_i e2
              split at e
              · rename_i e3
                rw [veqT_eq e1, Nat.eq_of_beq_eq_true e2] at hb
                exact ⟨fn, hc, h', hf, hh, hb, e3, e⟩
              · cases e
            · cases e
          · cases e
        · cases e
      · cases e
    · cases e
  · cases e

/-- all that is laid for such a call -/
structure CanAt (c : Can) (h h2 hc hc' : Heap) : Prop where
  pat : ∀ i o, (i, o) ∈ c.pat → ∃ e cs fx ro, o = .cells e cs fx true ∧ h.get i = some (.cells e cs fx ro)
  sub : ∀ i o, hc.get i = some o → (i, o) ∈ c.pat
  outs : ∀ i o, (i, o) ∈ c.outs → c.n ≤ i ∧ i < c.n' ∧ hc'.get i = some o ∧ isCells o = true
  res : ∀ i, (h2.get i = h.get i ∧ ∀ o, (i, o) ∉ c.pat) ∨ (∃ o, (i, o) ∈ c.pat ∧ h2.get i = some o) ∨ ∃ o, (i, o) ∈ c.outs ∧ h2.get i = some o
  nop : ∀ i vs, h.get i ≠ some (.pipe vs)
section
variable {c : Can} {h h2 hc hc' : Heap} (X : CanAt c h h2 hc hc')
include X
theorem CanAt.hcro {i : Nat} {o : AObj} (e : hc.get i = some o) : o.ro = true ∧ ∃ el cs fx ro, o = .cells el cs fx true ∧ h.get i = some (.cells el cs fx ro) := by
  obtain ⟨el, cs, fx, ro, h1, h2⟩ := X.pat i o (X.sub i o e)
  exact ⟨by rw [h1]; rfl, el, cs, fx, ro, h1, h2⟩
theorem CanAt.nop2 (i : Nat) (vs : List Value) : h2.get i ≠ some (.pipe vs) := by
  intro e
  rcases X.res i with ⟨a, _⟩ | ⟨o, a, b⟩ | ⟨o, a, b⟩
  · exact X.nop i vs (a ▸ e)
  · obtain ⟨_, _, _, _, h1, _⟩ := X.pat i o a
    rw [e] at b; cases b; cases h1
  · have := (X.outs i o a).2.2.2
    rw [e] at b; cases b; cases this
theorem CanAt.at' {P : Program} {C : Ctx P} {σ : Stage} {ρ : Ren} {w : World} {pm : Perm} {N : Nat} (A : At P C σ ρ h w pm c.n N) : At P C none ρ hc w pm c.n N := by
  refine ⟨⟨A.sim.glob, fun i m o hi ho => ?_, fun i j m m' o o' hi hj ho ho' e => ?_⟩, A.fresh, fun i hi => ?_, A.pmo, fun k m vs _ hg => ?_⟩
  · obtain ⟨_, el, cs, fx, ro, rfl, hh⟩ := X.hcro ho
    obtain ⟨ob, t1, t2, t3, _⟩ := (A.sim.at' i m _ hi hh).get (by intro vs e; cases e)
    refine There.of t1 ?_ t3 (fun x => by cases x)
    cases ob <;> simp only [ORel] at t2 ⊢
    exact ⟨t2.1, t2.2.1, t2.2.2.1, t2.2.2.2.1, fun x => by cases x⟩
  · obtain ⟨_, _, _, _, _, _, h1⟩ := X.hcro ho
    obtain ⟨_, _, _, _, _, _, h2⟩ := X.hcro ho'
    exact A.sim.inj i j m m' _ _ hi hj h1 h2 e
  · cases hq : hc.get i with
    | none => rfl
    | some o =>
      obtain ⟨_, _, _, _, _, _, h1⟩ := X.hcro hq
      rw [A.low i hi] at h1; cases h1
  · obtain ⟨_, _, _, _, _, h1, _⟩ := X.hcro hg
    cases h1
theorem CanAt.runs {P : Program} {C : Ctx P} {σ : Stage} {ρ ρ' : Ren} {w w' : World} {pm pm' : Perm} {N : Nat} (A : At P C σ ρ h w pm c.n N) (r : Runs ρ hc w pm c.n ρ' hc' w' pm' c.n') : Runs ρ h w pm c.n ρ' h2 w' pm' c.n' := by
  have noimg : ∀ i m o, ρ i = some m → hc.get i = some o → o.ro = false → False := fun i m o _ ho hr => by rw [(X.hcro ho).1] at hr; cases hr
  have low : ∀ {i o}, h.get i = some o → i < c.n := fun {i o} e => by
    rcases Nat.lt_or_ge i c.n with x | x
    · exact x
    · rw [A.low i x] at e; cases e
  have oldat : ∀ {i o}, h.get i = some o → ρ' i = ρ i := fun {i o} e => r.off i (by have := low e; omega)
  -- what stands there, old or new
  have kinds : ∀ i o, h2.get i = some o → (∃ o0, h.get i = some o0 ∧ ((o = o0 ∧ ∀ x, (i, x) ∉ c.pat) ∨ ∃ el cs fx ro, o0 = .cells el cs fx ro ∧ o = .cells el cs fx true)) ∨ (c.n ≤ i ∧ i < c.n' ∧ hc'.get i = some o ∧ isCells o = true) := by
    intro i o e
    rcases X.res i with ⟨a, b⟩ | ⟨x, a, b⟩ | ⟨x, a, b⟩
    · exact .inl ⟨o, a ▸ e, .inl ⟨rfl, b⟩⟩
    · obtain ⟨el, cs, fx, ro, h1, h3⟩ := X.pat i x a
      rw [b] at e
      cases e
      exact .inl ⟨_, h3, .inr ⟨el, cs, fx, ro, rfl, h1⟩⟩
    · rw [b] at e; cases e
      exact .inr (X.outs i _ a)
  have blk : ∀ {i m o}, ρ i = some m → h.get i = some o → m.b < w.heap.size := fun {i m o} hi ho => (A.sim.at' i m o hi ho).lt
  have newb : ∀ {i m}, c.n ≤ i → i < c.n' → ρ' i = some m → w.heap.size ≤ m.b := fun {i m} a b e => by
    rcases r.imgs i m a b e with x | ⟨j, m0, o, x1, x2, x3, _⟩
    · exact x
    · exact (noimg j m0 o x1 x2 x3).elim
  refine ⟨r.le, r.off, ⟨r.sim.glob, fun i m o hi ho => ?_, fun i j m m' o o' hi hj ho ho' e => ?_⟩, r.size, r.rd, r.rd', r.wr, r.world, r.old, fun b hb hr hf => r.frame b hb hr fun i m o x y z => (noimg i m o x y z).elim, fun i m a b e => .inl (newb a b e), fun i hi hr => ?_, r.nle, fun i m o o' hr hi ho hro ho' => ?_, fun b hb hw hf => r.kwr b hb hw fun i m o x y => ?_⟩
  · rcases kinds i o ho with ⟨o0, h0, hk⟩ | ⟨_, _, h3, _⟩
    · have hi0 : ρ i = some m := by rw [← oldat h0]; exact hi
      have t0 := A.sim.at' i m o0 hi0 h0
      have np : ∀ vs, o0 ≠ .pipe vs := fun vs e => X.nop i vs (e ▸ h0)
      obtain ⟨ob, t1, t2, t3, t4⟩ := t0.get np
      have same : w'.heap[m.b]? = w.heap[m.b]? := r.frame m.b (blk hi0 h0) t3 fun j m0 o x y z => (noimg j m0 o x y z).elim
      rcases hk with ⟨rfl, hnp⟩ | ⟨el, cs, fx, ro, rfl, rfl⟩
      · refine There.of (same.trans t1) (t2.mono r.le) (r.rd _ t3) fun x => r.kwr m.b (blk hi0 h0) (t4 x) fun j m0 o1 y1 y2 y3 => ?_
        obtain ⟨_, _, _, _, _, _, y4⟩ := X.hcro y2
        have := A.sim.inj j i m0 m _ _ y1 hi0 y4 h0 y3
        subst this
        exact hnp _ (X.sub _ _ y2)
      · refine There.of (same.trans t1) ?_ (r.rd _ t3) (fun x => by cases x)
        have t2 := t2.mono r.le
        cases ob <;> simp only [ORel] at t2 ⊢
        exact ⟨t2.1, t2.2.1, t2.2.2.1, t2.2.2.2.1, fun x => by cases x⟩
    · exact r.sim.at' i m o hi h3
  · rcases kinds i o ho with ⟨o0, h0, _⟩ | ⟨a1, a2, h3, _⟩
    · have hi0 : ρ i = some m := by rw [← oldat h0]; exact hi
      rcases kinds j o' ho' with ⟨o1, h1, _⟩ | ⟨b1, b2, h4, _⟩
      · have hj0 : ρ j = some m' := by rw [← oldat h1]; exact hj
        exact A.sim.inj i j m m' _ _ hi0 hj0 h0 h1 e
      · have := blk hi0 h0
        have := newb b1 b2 hj
        omega
    · rcases kinds j o' ho' with ⟨o1, h1, _⟩ | ⟨b1, b2, h4, _⟩
      · have hj0 : ρ j = some m' := by rw [← oldat h1]; exact hj
        have := blk hj0 h1
        have := newb a1 a2 hi
        omega
      · exact r.sim.inj i j m m' _ _ hi hj h3 h4 e
  · cases hq : h2.get i with
    | none => rfl
    | some o =>
      rcases kinds i o hq with ⟨o0, h0, _⟩ | ⟨a1, a2, _⟩
      · rw [hi] at h0; cases h0
      · exact absurd ⟨a1, a2⟩ hr
  · rcases kinds i o' ho' with ⟨o0, h0, hk⟩ | ⟨a1, a2, _⟩
    · rw [ho] at h0; cases h0
      rcases hk with ⟨rfl, _⟩ | ⟨el, cs, fx, ro, _, rfl⟩
      · exact hro
      · rfl
    · exact absurd ⟨a1, a2⟩ hr
  · obtain ⟨_, _, _, _, _, _, y4⟩ := X.hcro y
    exact hf i m _ x y4
end

section
variable {P : Program} {T : Tbl} (K : TblOk P T) {C : Ctx P} {sp sp1 : Sp}
include K
theorem can_ok {c : Can} {run : RunA} (hr : RunOk C run) {fn : Func} (hf : T.fn c.g = some fn) {hc hc' : Heap} (eb : bodyA T run fn c.args hc c.n = some (c.v, hc', c.n')) (hq : noPipe hc' = true)
    {h h2 : Heap} (X : CanAt c h h2 hc hc')
    {σ : Stage} {ρ : Ren} {pm : Perm} {w : World} {b : Frame} {a : Act} {k : List Item} {cs : List Frame} {ops : Array Oper} {i N : Nat} {rest : List Nat} {o : Oper} (A : At P C σ ρ h w pm c.n N) (hN : c.n' ≤ N)
    (ho : ops[i]? = some o) (hw : Region.wanted o (yielded ops a.tmps) = true) (hk : b.kind ≠ .early) (hcl : ∀ w₁, Rely pm w w₁ → OpCall P ρ w₁ pm (execOp a.eval o) c.g c.args)
    (hK : Behind P C ρ h w pm c.n c.v h2 c.n' (fun σ' pm' w' u => C.Go σ' pm' (G (b.at (a.put o.dst u) (.inRegion ops rest :: k)) cs) w')) :
    C.Go σ pm (G (b.at a (.inRegion ops (i :: rest) :: k)) cs) w := by
  obtain rfl : σ = none := by
    match σ, A.stage with
    | none, _ => rfl
    | some (b0, us0), ⟨c0, m, _, _, q3, _⟩ => exact absurd q3 (X.nop c0 us0)
  refine call_own K hr hf eb (X.at' A) hN ho hw hk hcl fun σ' ρ' pm' w' u r s hv => ?_
  obtain rfl : σ' = none := by
    match σ', s with
    | none, _ => rfl
    | some (b0, us0), ⟨c0, m, _, _, q3, _⟩ => exact absurd q3 (noPipe_get hq c0 us0)
  exact hK none ρ' pm' w' u (X.runs A r) (fun c0 m vs _ hg => X.nop2 c0 vs hg) hv

variable (MS : MonoS sp1) (SO : SpOk C sp1) (RO : RecvOk T C) (hmix : P.follows .mixedOrders = true)
/-- each listed call's answer comes out of its own run -/
structure CanWell (P : Program) (T : Tbl) (C : Ctx P) (c : Can) : Prop where
  ex : ∃ (sp : Sp) (F : Nat), MonoS sp ∧ SpOk C sp ∧ canOk P T sp F c = true
include RO hmix
omit K RO hmix in
theorem CanWell.mono (MS : MonoS sp1) {cs : List Can} (H : ∀ c ∈ cs, CanWell P T C c) : MonoS (canSp cs sp1) := by
  intro g args h n v h' n' e
  unfold canSp at e
  split at e
  · rename_i c hf
    simp only [Option.some.injEq] at e
    obtain ⟨hm, _, rfl⟩ := findCan_inv hf
    obtain ⟨sp, F, M, _, ok⟩ := (H c hm).ex
    obtain ⟨_, _, _, _, _, rfl⟩ := canA_inv e
    obtain ⟨fn, hc, hc', g1, g2, g3, g4, g5⟩ := canOk_inv ok
    unfold bodyA at g3
    split at g3
    · cases g3
    · split at g3
      · split at g3
        unfold bodyR at g3
        split at g3
        · rename_i hrun
          split at g3
          · cases g3; exact aRun_mono M F hrun
          · cases g3
        · cases g3
      · cases g3
  · exact MS e
theorem canSp_ok (SO : SpOk C sp1) {cs : List Can} (H : ∀ c ∈ cs, CanWell P T C c) : SpOk C (canSp cs sp1) := by
  intro g args h n v h' n' e σ ρ pm w b a k fs ops i N rest o A hN ho hw hk hcl hK
  unfold canSp at e
  split at e
  · rename_i c hf
    simp only [Option.some.injEq] at e
    obtain ⟨hm, rfl, rfl⟩ := findCan_inv hf
    obtain ⟨sp, F, M, S, ok⟩ := (H c hm).ex
    obtain ⟨rfl, e2, e3, ⟨h1, e4, e5⟩, rfl, rfl⟩ := canA_inv e
    obtain ⟨fn, hc, hc', g1, g2, g3, g4, g5⟩ := canOk_inv ok
    have X : CanAt c h h' hc hc' := by
      refine ⟨patIn_get e2, fun i o hi => ?_, outsIn_get g5, fun i => ?_, noPipe_get e3⟩
      · rcases putsH_get g2 i with ⟨x, _⟩ | ⟨o', x, y⟩
        · rw [x, Tr.get_leaf] at hi; cases hi
        · rw [y] at hi; cases hi; exact x
      · rcases putsH_get e5 i with ⟨x, y⟩ | ⟨o', x, y⟩
        · rcases putsH_get e4 i with ⟨x', y'⟩ | ⟨o', x', y'⟩
          · exact .inl ⟨x.trans x', y'⟩
          · exact .inr (.inl ⟨o', x', x.trans y'⟩)
        · exact .inr (.inr ⟨o', x, y⟩)
    exact can_ok K (run_ok K M S RO hmix F) g1 g3 g4 X A hN ho hw hk hcl hK
  · exact SO e A hN ho hw hk hcl hK
end
end Go.Det
namespace Go.Det
open Go.Conc

theorem stepG_done {P : Program} {b : Frame} {a : Act} {fn : Func} {todo : List Item} {v : Value} {es : Array Event} {w : World} (hn : b.kind = .normal) (hd : a.defers = []) (hf : P.funcs[b.fn]? = some fn) (hi : P.inits.idxOf? b.fn = none)
    (hr : (results fn a.tmps).runT P w #[] = (.ok v w, es)) :
    stepG P true (G { b.at a todo with mode := .returning } []) w = .ended (.done v) w (seen P b.fn es) := by
  obtain ⟨r1, r2⟩ := run_of hr
  simp [G, stepG, unwind, doReturn, Frame.at, hn, hd, hf, hi, r1, r2, GStep.after]

section
variable {P : Program} {Post : Value → World → Prop} {T : Tbl} (K : TblOk P T) {sp : Sp} (MS : MonoS sp) (SO : SpOk (ctx0 P Post) sp) (RO : RecvOk T (ctx0 P Post)) (hmix : P.follows .mixedOrders = true)
include K MS SO RO hmix
/-- from the evaluator's answer to a run of the machine's -/
theorem top_run {g : Nat} {fn : Func} (f1 : P.funcs[g]? = some fn) (hin : P.inits.idxOf? g = none) {F : Nat} {args : List Value} {h : Heap} {n : Nat} {v : Value} {h' : Heap} {n' : Nat} (e : bodyA T (aRun P T sp F) fn args h n = some (v, h', n'))
    (hq : ∀ i vs, h'.get i ≠ some (.pipe vs)) {ρ : Ren} {pm : Perm} {w : World} {us : List Value} (A : At P (ctx0 P Post) none ρ h w pm n n') (hus : VRels ρ args us)
    (hP : ∀ ρ' pm' w' u, Runs ρ h w pm n ρ' h' w' pm' n' → VRel ρ' v u → Post u w') :
    RunTo P Post (solo (G (Frame.enter P g ⟨us⟩ .normal) []) w) #[] := by
  refine go0_begin (pm := pm) ?_ A.pmo
  unfold bodyA at e
  split at e
  · cases e
  · rename_i c hb
    split at e
    · rename_i hle
      have hle := Nat.le_of_ble_eq_true hle
      rw [lenL_eq] at hle
      split at e
      rename_i m hm
      unfold bodyR at e
      split at e
      · rename_i tm1 h1 n1 hrun
        split at e
        · rename_i v1 hv
          cases e
          rw [enter_at _ f1 hb]
          have hlen := hus.len
          have R0 : TRel ρ fn.ntmps (initT args 0) { tmps := ⟨us⟩ ++ Array.replicate (fn.ntmps - (⟨us⟩ : Array Value).size) undef, defers := [] } := by
            refine ⟨?_, fun t x ht => ?_⟩
            · simp only [Array.size_append, Array.size_replicate]
              show us.length + (fn.ntmps - us.length) = fn.ntmps
              omega
            · obtain ⟨_, q2⟩ := initT_get _ _ _ _ ht
              rw [Nat.sub_zero] at q2
              obtain ⟨u, hu, hx⟩ := hus.at' q2
              refine ⟨u, ?_, hx⟩
              have hlt := (List.getElem?_eq_some_iff.1 hu).1
              rw [Array.getElem?_append_left (by simpa using hlt)]
              simpa using hu
          refine run_ok K MS SO RO hmix F (fn := ⟨fn.ntmps, m⟩) hrun A (Nat.le_refl _) R0 (show CallKind.normal ≠ .early by decide) fun σ' ρ' pm' w' a' td r' s' R' d' => ?_
          obtain rfl : σ' = none := by
            match σ', s' with
            | none, _ => rfl
            | some (b0, us0), ⟨c0, m0, _, _, q3, _⟩ => exact absurd q3 (hq c0 us0)
          refine go0_end rfl fun w₂ q => ?_
          obtain ⟨u, es, g1, g2, g3⟩ := res_rel K (r'.sim.rely q) R' hv
          have hs := stepG_done (P := P) (b := base g) (a := a') (todo := td) rfl d' f1 hin g1
          exact ⟨_, _, hs, evIn_seen g2, hP ρ' pm' w₂ u (r'.trans (Runs.rely r'.sim q _)) g3⟩
        · cases e
      · cases e
    · cases e
end

/-! ### where it begins: the program's variables alone, which are not written -/
def ρ0 : Ren := fun i => if i < 64 then some ⟨i, 0, none⟩ else none
def pm0 (w : World) : Perm := ⟨fun c => c < w.heap.size, fun _ => False⟩
/-- the variables, as the evaluator holds them -/
structure Start (h : Heap) (w : World) : Prop where
  cells : ∀ i o, h.get i = some o → i < 64 ∧ ∃ el cs, o = .cells el cs none true ∧ afrees cs = true ∧ ∃ fr, w.heap[i]? = some (.cells ⟨cs⟩ el fr)

theorem Start.at {P : Program} {C : Ctx P} {h : Heap} {w : World} (S : Start h w) (n' : Nat) : At P C none ρ0 h w (pm0 w) 64 n' := by
  have hlt : ∀ c, (∃ o, h.get c = some o) → c < w.heap.size := fun c ⟨o, ho⟩ => by
    obtain ⟨_, el, cs, _, _, fr, hw⟩ := S.cells c o ho
    exact (Array.getElem?_eq_some_iff.1 hw).1
  refine ⟨⟨fun g hg => if_pos hg, fun i m o hm ho => ?_, fun i j m m' o o' hi hj ho ho' e => ?_⟩, fun i h1 _ => if_neg (by omega), fun i hi => ?_, ⟨fun c hc => hc, fun c hc => hc.elim⟩, fun c m vs _ hg => ?_⟩
  · obtain ⟨hi, el, cs, rfl, hf, fr, hw⟩ := S.cells i o ho
    unfold ρ0 at hm
    rw [if_pos hi] at hm
    cases hm
    refine There.of hw ?_ (hlt i ⟨_, ho⟩) (fun x => by cases x)
    refine ⟨rfl, ⟨fun k v hk => ⟨v, by simpa using hk, afree_rel (afrees_get _ hf k v hk)⟩⟩, fun _ => ⟨rfl, rfl, rfl⟩, ⟨fun sz x => (by cases x), fun x => (by cases x)⟩⟩
  · obtain ⟨h1, _⟩ := S.cells i o ho
    obtain ⟨h2, _⟩ := S.cells j o' ho'
    unfold ρ0 at hi hj
    rw [if_pos h1] at hi
    rw [if_pos h2] at hj
    cases hi; cases hj
    exact e
  · cases hq : h.get i with
    | none => rfl
    | some o => have := (S.cells i o hq).1; omega
  · obtain ⟨_, el, cs, x, _⟩ := S.cells c _ hg
    cases x
end Go.Det
