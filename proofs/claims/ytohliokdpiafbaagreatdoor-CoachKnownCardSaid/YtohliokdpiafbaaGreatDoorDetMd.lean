/- The machine of goroutine 0 beside one sender over an unbuffered channel and beside goroutines that are leaving. Conditions: none beyond what each theorem states. -/
import Derived.Test.YtohliokdpiafbaaGreatDoorDetMc
import Derived.Conc.Beside
import Derived.Conc.CrowdComm
import Derived.Conc.CrowdCom2
set_option linter.unusedVariables false
set_option linter.unusedSimpArgs false
set_option linter.unusedSectionVars false
set_option linter.constructorNameAsVariable false
namespace Go.Det
open Go.Conc

/-! ### the trace: who knows what -/
theorem memEv {g : Nat} {fn : FuncId} {pos : String} {es : Array Event} {op : MemOp} (h : op ∈ MemOp.ofEvents g fn pos es) : ∃ e ∈ es, op = { g, fn, pos, act := .ofEvent e } := by
  rw [ofEvents_eq] at h
  obtain ⟨e, he, rfl⟩ := Array.mem_map.1 h
  exact ⟨e, he, rfl⟩
def blk : Loc → Option Nat
  | .cell a => some a.block
  | .obj r => some r
  | _ => none

/-- what goroutine g may do, it knows enough for -/
structure Kn (t : Trace) (g : Nat) (pm : Perm) : Prop where
  w : ∀ k a c, touchAt t k = some a → blk a.loc = some c → pm.wr c → Knows t g k
  r : ∀ k a c, touchAt t k = some a → blk a.loc = some c → pm.rd c → a.write = true → Knows t g k

/-- what one writes the other does not read -/
structure Sep (pm pm' : Perm) : Prop where
  a : ∀ c, pm.wr c → ¬ pm'.rd c
  b : ∀ c, pm'.wr c → ¬ pm.rd c
theorem Sep.symm {pm pm' : Perm} (h : Sep pm pm') : Sep pm' pm := ⟨h.b, h.a⟩
theorem StepOk.pmOk {pm pm' : Perm} {w w' : World} (s : StepOk pm w pm' w') (h : PmOk pm w) : PmOk pm' w' := by
  have := s.size
  refine ⟨fun c hc => ?_, fun c hc => ?_⟩
  · rw [s.grow] at hc
    rcases hc with hc | hc
    · have := h.rd c hc; omega
    · exact hc.2
  · rw [s.grow] at hc
    rcases hc with hc | hc
    · have := h.wr c hc; omega
    · exact hc.2
theorem StepOk.sep {pm pm' pm2 : Perm} {w w' : World} (s : StepOk pm w pm' w') (h : Sep pm pm2) (h2 : PmOk pm2 w) : Sep pm' pm2 := by
  refine ⟨fun c hc hr => ?_, fun c hw hr => ?_⟩
  · rw [s.grow] at hc
    rcases hc with hc | hc
    · exact h.a c hc hr
    · have := h2.rd c hr; omega
  · rw [s.grow] at hr
    rcases hr with hr | hr
    · exact h.b c hw hr
    · have := h2.wr c hw; omega
/-- another's step, as one sees it -/
theorem StepOk.relyOf {pm pm' pm2 : Perm} {w w' : World} (s : StepOk pm w pm' w') (h : Sep pm pm2) (h2 : PmOk pm2 w) : Rely pm2 w w' :=
  ⟨s.size, fun c hc => s.old c (h2.rd c hc) fun hw => h.a c hw hc, s.world⟩

theorem evIn_touch {pm : Perm} {e : Event} {x : Touch} (h : EvIn pm e) (hx : (MemAct.ofEvent e).touch? = some x) : ∃ c, blk x.loc = some c ∧ pm.rd c ∧ (x.write = true → pm.wr c) := by
  obtain ⟨loc, wr, sy⟩ := e
  cases loc with
  | cell a =>
    obtain ⟨h1, h2, h3⟩ := h
    have h3 : sy = false := h3
    subst h3
    have : (MemAct.ofEvent ⟨.cell a, wr, false⟩).touch? = some ⟨.cell a, wr, .plain⟩ := by cases wr <;> rfl
    rw [this] at hx
    cases hx
    exact ⟨a.block, rfl, h1, h2⟩
  | obj r =>
    obtain ⟨h1, h2, h3⟩ := h
    have h3 : sy = false := h3
    subst h3
    have : (MemAct.ofEvent ⟨.obj r, wr, false⟩).touch? = some ⟨.obj r, wr, .plain⟩ := by cases wr <;> rfl
    rw [this] at hx
    cases hx
    exact ⟨r, rfl, h1, h2⟩
  | mark m =>
    obtain ⟨h1, h2, h3⟩ := h
    have h2 : wr = false := h2
    have h3 : sy = true := h3
    subst h2 h3
    rcases h1 with rfl | ⟨f, rfl⟩ <;> cases hx
  | output => exact h.elim
  | goroutines => exact h.elim
theorem evIn_hears {pm : Perm} {e : Event} (h : EvIn pm e) : e.loc ≠ .mark .disable ∧ e.loc ≠ .mark .enable := by
  obtain ⟨loc, wr, sy⟩ := e
  cases loc with
  | mark m => rcases h.1 with rfl | ⟨f, rfl⟩ <;> exact ⟨by simp, by simp⟩
  | _ => exact ⟨by simp, by simp⟩
theorem evIn_low {pm : Perm} {B : Nat} (hB : ∀ c, pm.rd c → c < B) {e : Event} (h : EvIn pm e) : (MemAct.ofEvent e).low B := by
  obtain ⟨loc, wr, sy⟩ := e
  cases loc with
  | cell a =>
    have : MemAct.ofEvent ⟨.cell a, wr, sy⟩ = .access ⟨.cell a, wr, sy⟩ := rfl
    rw [this]; exact hB _ h.1
  | obj r =>
    obtain ⟨h1, h2, h3⟩ := h
    have h3 : sy = false := h3
    subst h3
    have : MemAct.ofEvent ⟨.obj r, wr, false⟩ = .access ⟨.obj r, wr, false⟩ := by cases wr <;> rfl
    rw [this]; exact hB _ h1
  | mark m =>
    obtain ⟨h1, h2, h3⟩ := h
    have h2 : wr = false := h2
    have h3 : sy = true := h3
    subst h2 h3
    rcases h1 with rfl | ⟨f, rfl⟩ <;> trivial
  | output => exact h.elim
  | goroutines => exact h.elim

/-- what is held of the trace: no data race; all addresses are below B; goroutine s is the only one but 0 whose touches are not handed over -/
structure Trc (t : Trace) (B : Nat) (s : Option Nat) : Prop where
  clean : ∀ said, ¬ Race said t
  seen : ∀ op ∈ t, op.act.low B
  over : ∀ i op, t[i]? = some op → op.g ≠ 0 → op.act.touch? ≠ none → Knows t 0 i ∨ some op.g = s
  hears : Deaf t 0 = 0

theorem touch_low {B : Nat} {op : MemOp} (h : op.act.low B) {x : Touch} (hx : op.act.touch? = some x) {c : Nat} (hc : blk x.loc = some c) : c < B := by
  obtain ⟨g, fn, pos, act⟩ := op
  dsimp only at h hx
  cases act with
  | access e =>
    cases hx
    obtain ⟨loc, wr, sy⟩ := e
    cases loc <;> simp only [blk, Option.some.injEq] at hc <;> first | (subst hc; exact h) | cases hc
  | mark m =>
    cases m <;> simp only [MemAct.touch?, Option.some.injEq] at hx <;> first | (subst hx; simp only [blk, Option.some.injEq] at hc; subst hc; exact h) | cases hx
  | _ => cases hx

section
variable {t : Trace} {B B' g : Nat} {s : Option Nat} {pm pm' : Perm} {w w' : World}

theorem Kn.app {u : Trace} (h : Kn t g pm) (hu : ∀ op ∈ u, op.act.touch? = none) : Kn (t ++ u) g pm := by
  have key : ∀ k a, touchAt (t ++ u) k = some a → touchAt t k = some a := by
    intro k a ha
    obtain ⟨x, hx, hxa⟩ := touch_of ha
    rcases getElem?_append_cases hx with ⟨_, hx'⟩ | ⟨_, hxu⟩
    · rw [touchAt_of hx']; exact hxa
    · rw [hu x hxu] at hxa; cases hxa
  exact ⟨fun k a c h1 h2 h3 => (h.w k a c (key k a h1) h2 h3).app u, fun k a c h1 h2 h3 h4 => (h.r k a c (key k a h1) h2 h3 h4).app u⟩
/-- behind an own step -/
theorem Kn.own {u : Trace} (h : Kn t g pm) (hs : StepOk pm w pm' w') (hseen : ∀ op ∈ t, op.act.low w.heap.size) (hu : ∀ op ∈ u, op.g = g) : Kn (t ++ u) g pm' := by
  have old : ∀ k a c, k < t.size → touchAt (t ++ u) k = some a → blk a.loc = some c → touchAt t k = some a ∧ c < w.heap.size := by
    intro k a c hk ha hc
    rw [touchAt_old hk] at ha
    obtain ⟨x, hx, hxa⟩ := touch_of ha
    exact ⟨ha, touch_low (hseen x (mem_of_getElem? hx)) hxa hc⟩
  have new : ∀ k a, ¬ k < t.size → touchAt (t ++ u) k = some a → Knows (t ++ u) g k := by
    intro k a hk ha
    obtain ⟨x, hx, _⟩ := touch_of ha
    rcases getElem?_append_cases hx with ⟨hl, _⟩ | ⟨_, hxu⟩
    · exact absurd hl hk
    · have := knows_own hx
      rwa [hu x hxu] at this
  refine ⟨fun k a c h1 h2 h3 => ?_, fun k a c h1 h2 h3 h4 => ?_⟩
  · by_cases hk : k < t.size
    · obtain ⟨q1, q2⟩ := old k a c hk h1 h2
      rw [hs.grow] at h3
      rcases h3 with h3 | h3
      · exact (h.w k a c q1 h2 h3).app u
      · omega
    · exact new k a hk h1
  · by_cases hk : k < t.size
    · obtain ⟨q1, q2⟩ := old k a c hk h1 h2
      rw [hs.grow] at h3
      rcases h3 with h3 | h3
      · exact (h.r k a c q1 h2 h3 h4).app u
      · omega
    · exact new k a hk h1
/-- behind another's step -/
theorem Kn.other {pm2 : Perm} {g2 : Nat} {fn : FuncId} {pos : String} {es : Array Event} (h : Kn t g pm) (hsep : Sep pm pm2) (hes : ∀ e ∈ es, EvIn pm2 e) : Kn (t ++ MemOp.ofEvents g2 fn pos es) g pm := by
  refine ⟨fun k a c h1 h2 h3 => ?_, fun k a c h1 h2 h3 h4 => ?_⟩
  all_goals
    obtain ⟨x, hx, hxa⟩ := touch_of h1
    rcases getElem?_append_cases hx with ⟨hl, hx'⟩ | ⟨_, hxu⟩
  · exact (h.w k a c (by rw [touchAt_of hx']; exact hxa) h2 h3).app _
  · obtain ⟨e, he, rfl⟩ := memEv hxu
    obtain ⟨c', q1, q2, q3⟩ := evIn_touch (hes e he) hxa
    rw [h2] at q1; cases q1
    exact absurd q2 (hsep.a c h3)
  · exact (h.r k a c (by rw [touchAt_of hx']; exact hxa) h2 h3 h4).app _
  · obtain ⟨e, he, rfl⟩ := memEv hxu
    obtain ⟨c', q1, q2, q3⟩ := evIn_touch (hes e he) hxa
    rw [h2] at q1; cases q1
    exact absurd h3 (hsep.b c (q3 h4))

/-- operations that touch nothing -/
theorem noRace_mute {said : Bool} {u : Trace} (h : ¬ Race said t) (hu : ∀ op ∈ u, op.act.touch? = none) : ¬ Race said (t ++ u) := by
  rintro ⟨i, j, hij, ⟨a, b, ha, hb, hc⟩, n1, n2⟩
  obtain ⟨x, hx, hxa⟩ := touch_of ha
  obtain ⟨y, hy, hyb⟩ := touch_of hb
  rcases getElem?_append_cases hy with ⟨hj, hy'⟩ | ⟨_, hyu⟩
  · have hi : i < t.size := Nat.lt_trans hij hj
    have hx' : t[i]? = some x := by rw [← getElem?_append_old (u := u) hi]; exact hx
    exact h ⟨i, j, hij, ⟨a, b, by simp [Trace.act?, hx', hxa], by simp [Trace.act?, hy', hyb], hc⟩, fun e => n1 (hb_app u e), fun e => n2 (hb_app u e)⟩
  · rw [hu y hyu] at hyb; cases hyb
theorem Trc.mute {u : Trace} (h : Trc t B s) (hu : ∀ op ∈ u, op.act.touch? = none) (hl : ∀ op ∈ u, op.act.low B') (hB : B ≤ B') (hd : Deaf (t ++ u) 0 = 0) : Trc (t ++ u) B' s := by
  refine ⟨fun said => noRace_mute (h.clean said) hu, seen_app (fun op hop => MemAct.low_mono hB (h.seen op hop)) hl, fun i op ho hg ht => ?_, hd⟩
  rcases getElem?_append_cases ho with ⟨hi, ho'⟩ | ⟨_, hou⟩
  · exact (h.over i op ho' hg ht).imp (·.app u) id
  · exact absurd (hu op hou) ht
/-- a step of g's -/
theorem Trc.step {fn : FuncId} {pos : String} {es : Array Event} (h : Trc t w.heap.size s) (hk : Kn t g pm) (hs : StepOk pm w pm' w') (hpm : PmOk pm' w') (hes : ∀ e ∈ es, EvIn pm' e) (hg : g = 0 ∨ some g = s) : Trc (t ++ MemOp.ofEvents g fn pos es) w'.heap.size s := by
  have hgo : ∀ op ∈ MemOp.ofEvents g fn pos es, op.g = g := fun op hop => by obtain ⟨e, _, rfl⟩ := memEv hop; rfl
  refine ⟨fun said => noRace_append (h.clean said) hgo fun i a ha op hop b hb hc => ?_, seen_app (fun op hop => MemAct.low_mono hs.size (h.seen op hop)) fun op hop => ?_, fun i op ho hg0 ht => ?_, ?_⟩
  · obtain ⟨e, he, rfl⟩ := memEv hop
    obtain ⟨c, q1, q2, q3⟩ := evIn_touch (hes e he) hb
    have hac : blk a.loc = some c := by rw [hc.1]; exact q1
    obtain ⟨x, hx, hxa⟩ := touch_of ha
    have hlow := touch_low (h.seen x (mem_of_getElem? hx)) hxa hac
    rw [hs.grow] at q2 q3
    have hw := hc.2.2.1
    rcases hw with hw | hw
    · rcases q2 with q2 | q2
      · exact hk.r i a c ha hac q2 hw
      · omega
    · rcases q3 hw with q3 | q3
      · exact hk.w i a c ha hac q3
      · omega
  · obtain ⟨e, he, rfl⟩ := memEv hop
    exact evIn_low hpm.rd (hes e he)
  · rcases getElem?_append_cases ho with ⟨hi, ho'⟩ | ⟨_, hou⟩
    · exact (h.over i op ho' hg0 ht).imp (·.app _) id
    · have := hgo op hou
      rcases hg with rfl | hg
      · exact absurd this hg0
      · exact .inr (by rw [this]; exact hg)
  · by_cases h0 : g = 0
    · subst h0
      rw [Deaf_own, h.hears]
      exact deafBehind_still (fun e he => evIn_hears (hes e he)) _
    · rw [Deaf_other t h0 _ hgo]; exact h.hears
theorem Deaf_step {fn : FuncId} {pos : String} {es : Array Event} (hes : ∀ e ∈ es, EvIn pm e) (j : Nat) : Deaf (t ++ MemOp.ofEvents g fn pos es) j = Deaf t j := by
  by_cases h0 : g = j
  · subst h0
    rw [Deaf_own]
    exact deafBehind_still (fun e he => evIn_hears (hes e he)) _
  · exact Deaf_other t h0 _ fun op hop => by obtain ⟨e, _, rfl⟩ := memEv hop; rfl
theorem Trc.handed (h : Trc t B none) : t.HandedOver := by
  intro i g hg hne hc
  obtain ⟨x, hx, _⟩ := hc
  obtain ⟨op, hop, hox⟩ := touch_of hx
  have hgo : op.g = g := by simpa [Trace.g?, hop] using hg
  rcases h.over i op hop (by rw [hgo]; exact hne) (by rw [hox]; simp) with hk | hk
  · obtain ⟨q, z, h1, h2, h3⟩ := hk
    refine ⟨q, by simp [Trace.g?, h1, h2], ?_⟩
    rcases h3 with rfl | h3
    · rw [hop] at h1; cases h1; rw [hgo] at h2; exact absurd h2 hne
    · exact h3
  · cases hk
end
end Go.Det
namespace Go.Det
open Go.Conc

/-! ### a sender, alone: what is still to be sent over channel b -/
abbrev SR := List Value → Perm → Goroutine → World → Prop
/-- one step further -/
inductive SndF (P : Program) (b : Nat) (R : SR) : SR
  | step {us : List Value} {pm : Perm} {g : Goroutine} {w : World} (hs : g.status = .running)
      (h : ∀ w₁, Rely pm w w₁ → ∃ g' w' es pm', stepG P false g w₁ = .go g' w' es ∧ StepOk pm w₁ pm' w' ∧ (∀ e ∈ es, EvIn pm' e) ∧ R us pm' g' w') : SndF P b R us pm g w
  | send {v : Value} {us : List Value} {pm : Perm} {g : Goroutine} {w : World} (hs : g.status = .running)
      (h : ∀ w₁, Rely pm w w₁ → ∃ g₂ z, stepG P false g w₁ = .comm g₂ #[scase b v z] true .send w₁ #[] ∧ ∀ w₂, Rely pm w₁ w₂ → R us pm (Conc.served g₂ undef) w₂) : SndF P b R (v :: us) pm g w
  | close {pm : Perm} {g : Goroutine} {w : World} (hs : g.status = .running) (hm : mayWake P g = true)
      (h : ∀ w₁ s r tm, Rely pm w w₁ → w₁.heap[b]? = some (.chan 0 #[] false s r tm) → ∃ g₂ n, stepG P false g w₁ = .go g₂ (w₁.shut b s r tm) #[⟨.obj b, false, true⟩, ⟨.obj b, true, true⟩] ∧ QuitsIn P n g₂) : SndF P b R [] pm g w
theorem SndF.mono {P : Program} {b : Nat} {R R' : SR} (h : ∀ us pm g w, R us pm g w → R' us pm g w) {us : List Value} {pm : Perm} {g : Goroutine} {w : World} (x : SndF P b R us pm g w) : SndF P b R' us pm g w := by
  cases x with
  | step hs k => exact .step hs fun w₁ r => let ⟨g', w', es, pm', a, b, c, d⟩ := k w₁ r; ⟨g', w', es, pm', a, b, c, h _ _ _ _ d⟩
  | send hs k => exact .send hs fun w₁ r => let ⟨g₂, z, a, c⟩ := k w₁ r; ⟨g₂, z, a, fun w₂ r₂ => h _ _ _ _ (c w₂ r₂)⟩
  | close hs hm k => exact .close hs hm k
def Snd (P : Program) (b : Nat) : SR := fun us pm g w => ∀ R : SR, (∀ us pm g w, SndF P b R us pm g w → R us pm g w) → R us pm g w
theorem Snd.fold {P : Program} {b : Nat} {us : List Value} {pm : Perm} {g : Goroutine} {w : World} (h : SndF P b (Snd P b) us pm g w) : Snd P b us pm g w :=
  fun R hR => hR _ _ _ _ (h.mono fun _ _ _ _ x => x R hR)
theorem Snd.unfold {P : Program} {b : Nat} {us : List Value} {pm : Perm} {g : Goroutine} {w : World} (h : Snd P b us pm g w) : SndF P b (Snd P b) us pm g w :=
  h (SndF P b (Snd P b)) fun _ _ _ _ x => x.mono fun _ _ _ _ y => Snd.fold y
/-- induction -/
theorem Snd.ind {P : Program} {b : Nat} {Q : SR} (h : ∀ us pm g w, SndF P b (fun us pm g w => Snd P b us pm g w ∧ Q us pm g w) us pm g w → Q us pm g w) {us : List Value} {pm : Perm} {g : Goroutine} {w : World} (x : Snd P b us pm g w) : Q us pm g w :=
  (x (fun us pm g w => Snd P b us pm g w ∧ Q us pm g w) fun us pm g w y => ⟨Snd.fold (y.mono fun _ _ _ _ z => z.1), h us pm g w y⟩).2
theorem SndF.rely {P : Program} {b : Nat} {R : SR} {us : List Value} {pm : Perm} {g : Goroutine} {w w₁ : World} (x : SndF P b R us pm g w) (r : Rely pm w w₁) : SndF P b R us pm g w₁ := by
  cases x with
  | step hs k => exact .step hs fun w₂ r₂ => k w₂ (r.trans r₂)
  | send hs k => exact .send hs fun w₂ r₂ => k w₂ (r.trans r₂)
  | close hs hm k => exact .close hs hm fun w₂ s rc tm r₂ => k w₂ s rc tm (r.trans r₂)
theorem Snd.rely {P : Program} {b : Nat} {us : List Value} {pm : Perm} {g : Goroutine} {w w₁ : World} (x : Snd P b us pm g w) (r : Rely pm w w₁) : Snd P b us pm g w₁ := Snd.fold (x.unfold.rely r)
theorem SndF.running {P : Program} {b : Nat} {R : SR} {us : List Value} {pm : Perm} {g : Goroutine} {w : World} (x : SndF P b R us pm g w) : g.status = .running := by cases x <;> assumption

/-- the sender's own context -/
def sndCtx (P : Program) : Ctx P where
  main := false
  Go σ pm g w := ∀ b us, σ = some (b, us) → Snd P b us pm g w
  step hs h := fun b us hσ => Snd.fold (.step hs fun w₁ r => let ⟨g', w', es, pm', a1, a2, a3, a4⟩ := h w₁ r; ⟨g', w', es, pm', a1, a2, a3, a4 b us hσ⟩)

theorem pipe_runs {ρ : Ren} {h h' : Heap} {w w₁ : World} {pm : Perm} {n c : Nat} {us us' : List Value} (S : Sim ρ h w pm) (r : Rely pm w w₁) (hc : h.get c = some (.pipe us)) (e : hput h c (.pipe us') = some h') : Runs ρ h w pm n ρ h' w₁ pm n := by
  have S1 := S.rely r
  have get : ∀ i, h'.get i = if i = c then some (.pipe us') else h.get i := fun i => hput_get e i
  refine ⟨fun _ _ e => e, fun _ _ => rfl, ⟨S1.glob, fun i m o a b => ?_, fun i j m m' o o' a b x y z => ?_⟩, r.size, fun _ h => h, fun b => .inl, fun b => .inl, r.world, fun b _ hp _ => r.same b hp, fun b _ hp _ => r.same b hp, fun i m a b => by omega, fun i x _ => ?_, Nat.le_refl _, fun i m o o' _ x y z u => ?_, fun _ _ a _ => a⟩
  · rw [get] at b
    split at b
    · rename_i hi
      subst hi
      cases b
      have t := S1.at' i m _ a hc
      exact (show m.b < w₁.heap.size from t)
    · exact S1.at' i m o a b
  · have f : ∀ k ok, (if k = c then some (AObj.pipe us') else h.get k) = some ok → ∃ ok', h.get k = some ok' := fun k ok hk => by
      split at hk
      · rename_i hkc; exact ⟨_, hkc ▸ hc⟩
      · exact ⟨_, hk⟩
    rw [get] at x y
    obtain ⟨o1, x'⟩ := f i o x
    obtain ⟨o2, y'⟩ := f j o' y
    exact S1.inj i j m m' o1 o2 a b x' y' z
  · rw [get, if_neg (by rintro rfl; rw [hc] at x; cases x)]; exact x
  · rw [get] at u
    split at u
    · cases u; rfl
    · rw [y] at u; cases u; exact z

theorem snd_ok {P : Program} {T : Tbl} (hT : T.main = false) : RecvOk T (sndCtx P) where
  main := hT.symm
  recv h := by cases h
  send := by
    intro _ c u h n v h' n' e hfree σ ρ pm w b a k cs ops i N rest o A hN ho hw hk hs hK
    unfold sendA at e
    split at e
    · rename_i x us hg
      split at e
      · rename_i hx
        obtain rfl := veq_eq hx
        split at e
        · rename_i h1 hput
          cases e
          intro bb us' hσ
          subst hσ
          obtain ⟨c', m, q1, q2, q3, q4⟩ := A.stage
          obtain ⟨m0, hm0, _⟩ := hs w (Rely.refl _ _)
          obtain rfl := q4 c m0 _ hm0 hg
          rw [hg] at q3
          cases q3
          refine Snd.fold (.send rfl fun w₁ r => ?_)
          obtain ⟨m1, hm1, hrun⟩ := hs w₁ r
          rw [q1] at hm1
          cases hm1
          obtain ⟨r1, r2⟩ := run_of hrun
          refine ⟨G (b.at a (.inRegion ops (i :: rest) :: k)) cs, .tuple #[], ?_, fun w₂ r₂ => ?_⟩
          · rw [stepG_comm (cases := #[scase bb x (.tuple #[])]) (blocking := true) (shape := .send) (w' := w₁) ho hw hk (by rw [r1, ← q2]; rfl)]
            unfold listed
            rw [r2, seen_none]
          · rw [served_G, ho]
            refine hK (some (bb, us)) ρ pm w₂ undef (pipe_runs A.sim (r.trans r₂) hg hput) ⟨c, m, q1, q2, by rw [hput_get hput, if_pos rfl], fun c1 m1 vs y1 y2 => ?_⟩ (.tuple rfl VRels.nil.get) bb us rfl
            rw [hput_get hput] at y2
            split at y2
            · assumption
            · exact q4 c1 m1 vs y1 y2
        · cases e
      · cases e
    · cases e
end Go.Det
namespace Go.Det
open Go.Conc
open Go.ConcN (sumTo upd sumTo_upd upd_ne upd_same)

/-! ### the machine: goroutine 0, at most one sender, the rest leaving -/
def RunTo (P : Program) (Post : Value → World → Prop) (m : Machine) (t : Trace) : Prop :=
  ∃ N last o w' t', runNT P (N + 1) m t = (.ended o w', t') ∧ runN P N m = .next last ∧ step P last = .ended o w' ∧ Conc.Good P Post last o w' t'
theorem RunTo.next {P : Program} {Post : Value → World → Prop} {m m' : Machine} {t ops : Trace} (h : stepT P m = (.next m', ops)) (r : RunTo P Post m' (t ++ ops)) : RunTo P Post m t := by
  obtain ⟨N, last, o, w', t', h1, h2, h3, h4⟩ := r
  refine ⟨N + 1, last, o, w', t', ?_, ?_, h3, h4⟩
  · rw [runNT, h]; exact h1
  · have : step P m = .next m' := by unfold step; rw [h]
    rw [runN, this]; exact h2

structure Cfg (P : Program) (gs : Array Goroutine) (g : Goroutine) (w : World) (t : Trace) (pm : Perm) (q : Nat → Nat) (act src : Option Nat) : Prop where
  me : gs[0]? = some g
  pmo : PmOk pm w
  kn : Kn t 0 pm
  tr : Trc t w.heap.size src
  lv : ∀ i x, 0 < i → some i ≠ act → gs[i]? = some x → QuitsD P (q i) (Deaf t i) x
  above : ∀ j, gs.size ≤ j → Deaf t j = 0
/-- the channel stands open; s sends -/
structure Opn (b s : Nat) (w : World) (t : Trace) (pm pmc : Perm) : Prop where
  s0 : 0 < s
  chan : ∃ sn rc tm, w.heap[b]? = some (.chan 0 #[] false sn rc tm)
  kc : Kn t s pmc
  pmoc : PmOk pmc w
  sep : Sep pm pmc
  nb : (¬ pm.rd b ∧ ¬ pm.wr b) ∧ ¬ pmc.rd b ∧ ¬ pmc.wr b
  kb : ∀ k a, touchAt t k = some a → blk a.loc = some b → Knows t s k
  cd : Deaf t s = 0
/-- it has been closed by s -/
structure Shut (b s : Nat) (w : World) (t : Trace) (pm : Perm) : Prop where
  s0 : 0 < s
  chan : ∃ sn rc tm, w.heap[b]? = some (.chan 0 #[] true sn rc tm)
  nb : ¬ pm.rd b ∧ ¬ pm.wr b
  cl : ∃ p, t.act? p = some (.close b) ∧ t.heard p ∧ ∀ i op, t[i]? = some op → op.g = s → op.act.touch? ≠ none → Before t i p

section
variable {P : Program} {gs : Array Goroutine} {g : Goroutine} {w : World} {t : Trace} {pm : Perm} {q : Nat → Nat} {act src : Option Nat}

theorem Cfg.at (h : Cfg P gs g w t pm q act src) (d : Nat) : Cfg P gs g (w.at d) t pm q act src := ⟨h.me, ⟨h.pmo.rd, h.pmo.wr⟩, h.kn, h.tr, h.lv, h.above⟩
theorem rely_at (pm : Perm) (w : World) (d : Nat) : Rely pm w (w.at d) := ⟨Nat.le_refl _, fun _ _ => rfl, rfl, rfl, rfl⟩
theorem Opn.at {b s : Nat} {pmc : Perm} (h : Opn b s w t pm pmc) (d : Nat) : Opn b s (w.at d) t pm pmc := ⟨h.s0, h.chan, h.kc, ⟨h.pmoc.rd, h.pmoc.wr⟩, h.sep, h.nb, h.kb, h.cd⟩
theorem Shut.at {b s : Nat} (h : Shut b s w t pm) (d : Nat) : Shut b s (w.at d) t pm := ⟨h.s0, h.chan, h.nb, h.cl⟩

theorem get_map_other {f : Goroutine → Goroutine} {i j : Nat} {x : Goroutine} (h : i ≠ j) : ((gs.map f).setIfInBounds i x)[j]? = (gs[j]?).map f := by
  rw [Array.getElem?_setIfInBounds_ne h, Array.getElem?_map]

/-- operations that touch nothing, of goroutine i -/
theorem Kb.app {b s : Nat} {u : Trace} (h : ∀ k a, touchAt t k = some a → blk a.loc = some b → Knows t s k) (hu : ∀ op ∈ u, ∀ a, op.act.touch? = some a → blk a.loc ≠ some b) : ∀ k a, touchAt (t ++ u) k = some a → blk a.loc = some b → Knows (t ++ u) s k := by
  intro k a ha hb
  obtain ⟨x, hx, hxa⟩ := touch_of ha
  rcases getElem?_append_cases hx with ⟨_, hx'⟩ | ⟨_, hxu⟩
  · exact (h k a (by rw [touchAt_of hx']; exact hxa) hb).app u
  · exact absurd hb (hu x hxu a hxa)
theorem Shut.app {b s : Nat} {w' : World} {pm' : Perm} {u : Trace} (h : Shut b s w t pm) (hu : ∀ op ∈ u, op.g = s → op.act.touch? = none) (hc : w'.heap[b]? = w.heap[b]?) (hn : ¬ pm'.rd b ∧ ¬ pm'.wr b) : Shut b s w' (t ++ u) pm' := by
  obtain ⟨p, h1, h2, h3⟩ := h.cl
  have hp := lt_of_act? h1
  refine ⟨h.s0, by rw [hc]; exact h.chan, hn, p, by rw [act?_old hp]; exact h1, (heard_old hp).2 h2, fun i op ho hg ht => ?_⟩
  rcases getElem?_append_cases ho with ⟨hi, ho'⟩ | ⟨_, hou⟩
  · exact (h3 i op ho' hg ht).app u
  · exact absurd (hu op hou hg) ht

/-- a leaver slips -/
theorem Cfg.slip (h : Cfg P gs g w t pm q act src) {i k : Nat} {x x' : Goroutine} {es : Array Event} (hi : gs[i]? = some x) (h0 : 0 < i) (hm : ∀ e ∈ es, Event.mute e = true) (hq : QuitsD P k (deafBehind (Deaf t i) es) x') (hact : act ≠ some i)
    (hg : woken P x x' w g = g) : Cfg P ((gs.map (woken P x x' w)).setIfInBounds i x') g w (t ++ MemOp.ofEvents i x.frame.fn x.frame.place es) pm (upd q i k) act src := by
  have hlt : i < gs.size := (Array.getElem?_eq_some_iff.1 hi).1
  have hgo : ∀ op ∈ MemOp.ofEvents i x.frame.fn x.frame.place es, op.g = i := fun op hop => by obtain ⟨e, _, rfl⟩ := memEv hop; rfl
  have hmute : ∀ op ∈ MemOp.ofEvents i x.frame.fn x.frame.place es, op.act.touch? = none := fun op hop => by obtain ⟨e, he, rfl⟩ := memEv hop; exact touch_mute (hm e he)
  refine ⟨?_, h.pmo, h.kn.app hmute, h.tr.mute hmute (fun op hop => by obtain ⟨e, he, rfl⟩ := memEv hop; exact low_mute (hm e he) _) (Nat.le_refl _) (by rw [Deaf_other t (by omega) _ hgo]; exact h.tr.hears), fun j y hj hja hy => ?_, fun j hj => ?_⟩
  · rw [get_map_other (by omega), h.me]
    simp [hg]
  · by_cases hji : i = j
    · subst hji
      rw [Array.getElem?_setIfInBounds_self_of_lt (by simpa using hlt)] at hy
      obtain rfl := Option.some.inj hy
      rw [upd_same, Deaf_own]
      exact hq
    · rw [get_map_other hji] at hy
      obtain ⟨z, hz, rfl⟩ := Option.map_eq_some_iff.1 hy
      have hqj := h.lv j z hj hja hz
      rw [woken_quitsD hqj, upd_ne q k (Ne.symm hji), Deaf_other t hji _ hgo]
      exact hqj
  · rw [Deaf_other t (g' := i) (by simp at hj; omega) _ hgo]
    exact h.above j (by simpa using hj)
theorem Opn.slip {b s : Nat} {pmc : Perm} (h : Opn b s w t pm pmc) {i : Nat} {fn : FuncId} {pos : String} {es : Array Event} (hm : ∀ e ∈ es, Event.mute e = true) (his : i ≠ s) : Opn b s w (t ++ MemOp.ofEvents i fn pos es) pm pmc := by
  have hmute : ∀ op ∈ MemOp.ofEvents i fn pos es, op.act.touch? = none := fun op hop => by obtain ⟨e, he, rfl⟩ := memEv hop; exact touch_mute (hm e he)
  refine ⟨h.s0, h.chan, h.kc.app hmute, h.pmoc, h.sep, h.nb, Kb.app h.kb (fun op hop a ha => by rw [hmute op hop] at ha; cases ha), ?_⟩
  rw [Deaf_other t his _ (fun op hop => by obtain ⟨e, _, rfl⟩ := memEv hop; rfl)]
  exact h.cd

/-- goroutine 0's own step -/
theorem Cfg.own (h : Cfg P gs g w t pm q act src) {g' : Goroutine} {w' : World} {es : Array Event} {pm' : Perm} (hs : StepOk pm w pm' w') (hes : ∀ e ∈ es, EvIn pm' e)
    (hact : ∀ s, act = some s → 0 < s) : Cfg P ((gs.map (woken P g g' w')).setIfInBounds 0 g') g' w' (t ++ MemOp.ofEvents 0 g.frame.fn g.frame.place es) pm' q act src := by
  have hlt : 0 < gs.size := (Array.getElem?_eq_some_iff.1 h.me).1
  have hgo : ∀ op ∈ MemOp.ofEvents 0 g.frame.fn g.frame.place es, op.g = 0 := fun op hop => by obtain ⟨e, _, rfl⟩ := memEv hop; rfl
  have hpm := hs.pmOk h.pmo
  refine ⟨by simp [hlt], hpm, h.kn.own hs h.tr.seen hgo, h.tr.step h.kn hs hpm hes (.inl rfl), fun j y hj hja hy => ?_, fun j hj => ?_⟩
  · rw [get_map_other (by omega)] at hy
    obtain ⟨z, hz, rfl⟩ := Option.map_eq_some_iff.1 hy
    have hqj := h.lv j z hj hja hz
    rw [woken_quitsD hqj, Deaf_step hes]
    exact hqj
  · rw [Deaf_step hes]
    exact h.above j (by simpa using hj)
theorem Opn.own {b s : Nat} {pmc : Perm} (h : Opn b s w t pm pmc) (hk : Kn t 0 pm) {w' : World} {fn : FuncId} {pos : String} {es : Array Event} {pm' : Perm} (hs : StepOk pm w pm' w') (hes : ∀ e ∈ es, EvIn pm' e) : Opn b s w' (t ++ MemOp.ofEvents 0 fn pos es) pm' pmc := by
  obtain ⟨sn, rc, tm, hc⟩ := h.chan
  have hb : b < w.heap.size := (Array.getElem?_eq_some_iff.1 hc).1
  have nb' : ¬ pm'.rd b ∧ ¬ pm'.wr b := by
    rw [hs.grow]
    exact ⟨fun x => x.elim h.nb.1.1 fun y => by omega, fun x => x.elim h.nb.1.2 fun y => by omega⟩
  refine ⟨h.s0, ⟨sn, rc, tm, by rw [hs.old b hb h.nb.1.2]; exact hc⟩, h.kc.other (hs.sep h.sep h.pmoc).symm hes, h.pmoc.size hs.size, hs.sep h.sep h.pmoc, ⟨nb', h.nb.2⟩, Kb.app h.kb (fun op hop a ha hba => ?_), by rw [Deaf_step hes]; exact h.cd⟩
  obtain ⟨e, he, rfl⟩ := memEv hop
  obtain ⟨c, q1, q2, _⟩ := evIn_touch (hes e he) ha
  rw [hba] at q1; cases q1
  exact nb'.1 q2
theorem Shut.own {b s : Nat} (h : Shut b s w t pm) {w' : World} {fn : FuncId} {pos : String} {es : Array Event} {pm' : Perm} (hs : StepOk pm w pm' w') : Shut b s w' (t ++ MemOp.ofEvents 0 fn pos es) pm' := by
  obtain ⟨sn, rc, tm, hc⟩ := h.chan
  have hb : b < w.heap.size := (Array.getElem?_eq_some_iff.1 hc).1
  have s0 := h.s0
  refine h.app (fun op hop hg => ?_) (hs.old b hb h.nb.2) ?_
  · obtain ⟨e, _, rfl⟩ := memEv hop
    have hg : 0 = s := hg
    omega
  · rw [hs.grow]
    exact ⟨fun x => x.elim h.nb.1 fun y => by omega, fun x => x.elim h.nb.2 fun y => by omega⟩
/-- the sender's own step -/
theorem Cfg.child {b s : Nat} {pmc : Perm} (h : Cfg P gs g w t pm q (some s) (some s)) (ho : Opn b s w t pm pmc) {x g' : Goroutine} {w' : World} {es : Array Event} {pm' : Perm} (hi : gs[s]? = some x) (hs : StepOk pmc w pm' w') (hes : ∀ e ∈ es, EvIn pm' e)
    (hg : woken P x g' w' g = g) : Cfg P ((gs.map (woken P x g' w')).setIfInBounds s g') g w' (t ++ MemOp.ofEvents s x.frame.fn x.frame.place es) pm q (some s) (some s) ∧ Opn b s w' (t ++ MemOp.ofEvents s x.frame.fn x.frame.place es) pm pm' ∧ Rely pm w w' := by
  have hlt : s < gs.size := (Array.getElem?_eq_some_iff.1 hi).1
  have s0 := ho.s0
  obtain ⟨sn, rc, tm, hc⟩ := ho.chan
  have hb : b < w.heap.size := (Array.getElem?_eq_some_iff.1 hc).1
  have hgo : ∀ op ∈ MemOp.ofEvents s x.frame.fn x.frame.place es, op.g = s := fun op hop => by obtain ⟨e, _, rfl⟩ := memEv hop; rfl
  have hpm := hs.pmOk ho.pmoc
  have hsep := hs.sep ho.sep.symm h.pmo
  have nb' : ¬ pm'.rd b ∧ ¬ pm'.wr b := by
    rw [hs.grow]
    exact ⟨fun x => x.elim ho.nb.2.1 fun y => by omega, fun x => x.elim ho.nb.2.2 fun y => by omega⟩
  refine ⟨⟨?_, h.pmo.size hs.size, h.kn.other hsep.symm hes, h.tr.step ho.kc hs hpm hes (.inr rfl), fun j y hj hja hy => ?_, fun j hj => ?_⟩, ⟨s0, ⟨sn, rc, tm, by rw [hs.old b hb ho.nb.2.2]; exact hc⟩, ho.kc.own hs h.tr.seen hgo, hpm, hsep.symm, ⟨ho.nb.1, nb'⟩, Kb.app ho.kb (fun op hop a ha hba => ?_), by rw [Deaf_step hes]; exact ho.cd⟩, hs.relyOf ho.sep.symm h.pmo⟩
  · rw [get_map_other (by omega), h.me]
    simp [hg]
  · have hjs : s ≠ j := fun e => hja (by rw [e])
    rw [get_map_other hjs] at hy
    obtain ⟨z, hz, rfl⟩ := Option.map_eq_some_iff.1 hy
    have hqj := h.lv j z hj hja hz
    rw [woken_quitsD hqj, Deaf_step hes]
    exact hqj
  · rw [Deaf_step hes]
    exact h.above j (by simpa using hj)
  · obtain ⟨e, he, rfl⟩ := memEv hop
    obtain ⟨c, q1, q2, _⟩ := evIn_touch (hes e he) ha
    rw [hba] at q1; cases q1
    exact nb'.1 q2
end
end Go.Det
namespace Go.Det
open Go.Conc
open Go.ConcN (sumTo upd sumTo_upd upd_ne upd_same)

section
variable {P : Program} {gs : Array Goroutine} {g : Goroutine} {w : World} {t : Trace} {pm : Perm} {q : Nat → Nat} {act src : Option Nat}

theorem pick (h : Cfg P gs g w t pm q act src) (hg : g.status = .running ∨ g.status = .blocked) (hc : ∀ s gc, act = some s → gs[s]? = some gc → gc.status = .running ∨ gc.status = .blocked)
    (hr : ∃ (i : Nat) (x : Goroutine), gs[i]? = some x ∧ x.status = .running) (sl : Option (Nat × Nat)) :
    ∃ i x d sl', gs[i]? = some x ∧ x.status = .running ∧ stepT P (crowd gs w sl) = runT P (crowd gs (w.at d) sl') i := by
  refine crowd_pick (fun x hx => ?_) hr
  obtain ⟨i, hi, rfl⟩ := Array.mem_iff_getElem.1 hx
  have hgi := Array.getElem?_eq_getElem hi
  rcases Nat.eq_zero_or_pos i with rfl | hpos
  · rw [h.me] at hgi
    have : gs[0] = g := (Option.some.inj hgi).symm
    rw [this]; exact awake_of (hg.imp id .inl)
  · by_cases ha : act = some i
    · exact awake_of ((hc i _ ha hgi).imp id .inl)
    · exact awake_of ((h.lv i _ hpos (fun e => ha e.symm) hgi).status.imp id .inr)
theorem leave_case (h : Cfg P gs g w t pm q act src) {i : Nat} {x : Goroutine} (hi : gs[i]? = some x) (h0 : 0 < i) (ha : act ≠ some i) (hx : x.status = .running) :
    ∃ x' es k, (∀ e ∈ es, Event.mute e = true) ∧ QuitsD P k (deafBehind (Deaf t i) es) x' ∧ (∀ sl d, runT P (crowd gs (w.at d) sl) i = (.next (crowd ((gs.map (woken P x x' (w.at d))).setIfInBounds i x') (w.at d) sl), MemOp.ofEvents i x.frame.fn x.frame.place es)) ∧
      (∀ d, sumTo ((gs.map (woken P x x' (w.at d))).setIfInBounds i x').size (upd q i k) + 1 = sumTo gs.size q) ∧ (x'.status = .running ∨ x'.status = .finished) := by
  have hq := h.lv i x h0 (fun e => ha e.symm) hi
  have hi0 : (i == 0) = false := by simp; omega
  have hlt : i < gs.size := (Array.getElem?_eq_some_iff.1 hi).1
  cases hqi : q i with
  | zero => rw [hqi] at hq; rw [hq.1] at hx; cases hx
  | succ k =>
    rw [hqi] at hq
    rcases hq with ⟨hf, _⟩ | ⟨_, x', es, hm, hst, hq'⟩
    · rw [hf] at hx; cases hx
    · refine ⟨x', es, k, hm, hq', fun sl d => runT_crowd_go hi (by rw [hi0]; exact hst _), fun d => ?_, hq'.status⟩
      have hsum : sumTo gs.size (upd q i k) + (k + 1) = sumTo gs.size q + k := by
        have := sumTo_upd q k id hlt
        simpa [hqi] using this
      have e : ((gs.map (woken P x x' (w.at d))).setIfInBounds i x').size = gs.size := by simp
      rw [e]
      omega

/-- communications: nothing is touched -/
structure Comms (u : Trace) (B : Nat) : Prop where
  touch : ∀ op ∈ u, op.act.touch? = none
  low : ∀ op ∈ u, op.act.low B
  hear : ∀ op ∈ u, op.act ≠ .mark .disable ∧ op.act ≠ .mark .enable
theorem Comms.deaf {u : Trace} {B : Nat} (h : Comms u B) (j : Nat) : Deaf (t ++ u) j = Deaf t j := Go.ConcN.Deaf_still t j u h.hear
theorem Cfg.comm (h : Cfg P gs g w t pm q act src) {gs' : Array Goroutine} {g' : Goroutine} {w' : World} {u : Trace} (h0 : gs'[0]? = some g') (hsz : gs'.size = gs.size) (hoth : ∀ i, 0 < i → some i ≠ act → gs'[i]? = gs[i]?) (hw : w'.heap.size = w.heap.size)
    (hu : Comms u w.heap.size) : Cfg P gs' g' w' (t ++ u) pm q act src :=
  ⟨h0, h.pmo.size (Nat.le_of_eq hw.symm), h.kn.app hu.touch, h.tr.mute hu.touch (fun op hop => by rw [hw]; exact hu.low op hop) (Nat.le_of_eq hw.symm) (by rw [hu.deaf]; exact h.tr.hears), fun i x hi ha hx => by rw [hoth i hi ha] at hx; rw [hu.deaf]; exact h.lv i x hi ha hx, fun j hj => by rw [hu.deaf]; exact h.above j (by omega)⟩
theorem Opn.comm {b s : Nat} {pmc : Perm} (h : Opn b s w t pm pmc) {w' : World} {u : Trace} (hw : w'.heap.size = w.heap.size) (hc : ∃ sn rc tm, w'.heap[b]? = some (.chan 0 #[] false sn rc tm)) (hu : Comms u w.heap.size) : Opn b s w' (t ++ u) pm pmc :=
  ⟨h.s0, hc, h.kc.app hu.touch, h.pmoc.size (Nat.le_of_eq hw.symm), h.sep, h.nb, Kb.app h.kb (fun op hop a ha => by rw [hu.touch op hop] at ha; cases ha), by rw [hu.deaf]; exact h.cd⟩
theorem Shut.comm {b s : Nat} (h : Shut b s w t pm) {w' : World} {u : Trace} (hc : w'.heap[b]? = w.heap[b]?) {B : Nat} (hu : Comms u B) : Shut b s w' (t ++ u) pm :=
  h.app (fun op hop _ => hu.touch op hop) hc h.nb
theorem comms_meet {b c s r : Nat} {B i j : Nat} {f f' : FuncId} {p p' : String} (hb : b < B) : Comms #[{ g := i, fn := f, pos := p, act := .send b s }, { g := j, fn := f', pos := p', act := .recv b r c }, { g := i, fn := f, pos := p, act := .sendDone b s }, { g := j, fn := f', pos := p', act := .recvDone b r }] B := by
  refine ⟨fun op hop => ?_, fun op hop => ?_, fun op hop => ?_⟩ <;> (simp at hop; rcases hop with rfl | rfl | rfl | rfl) <;> first | rfl | exact hb | exact ⟨by simp, by simp⟩
theorem comms_closed {b : Nat} {B i : Nat} {f : FuncId} {p : String} (hb : b < B) : Comms #[{ g := i, fn := f, pos := p, act := .recvClosed b }] B := by
  refine ⟨fun op hop => ?_, fun op hop => ?_, fun op hop => ?_⟩ <;> (simp at hop; subst hop) <;> first | rfl | exact hb | exact ⟨by simp, by simp⟩
theorem comms_nil {B : Nat} : Comms #[] B := ⟨fun op hop => by simp at hop, fun op hop => by simp at hop, fun op hop => by simp at hop⟩

/-- who is blocked: goroutine 0, the sender, or nobody -/
theorem offers_other (h : Cfg P gs g w t pm q act src) {i : Nat} {x : Goroutine} (h0 : 0 < i) (ha : some i ≠ act) (hx : gs[i]? = some x) (r : Nat) (send : Bool) : offersAt x r send = [] :=
  offersAt_of_not_blocked (by rcases (h.lv i x h0 ha hx).status with e | e <;> rw [e] <;> simp) r send
end

/-! ### what is held of goroutine 0 -/
def ChildAt (P : Program) (b : Nat) (us : List Value) (pmc : Perm) (gc : Goroutine) (w : World) : Prop :=
  Snd P b us pmc gc w ∨ ∃ v us' g₂ z, us = v :: us' ∧ gc = parked g₂ #[scase b v z] .send ∧ ∀ w₂, Rely pmc w w₂ → Snd P b us' pmc (Conc.served g₂ undef) w₂
structure GoC (P : Program) (Post : Value → World → Prop) (b : Nat) (us : List Value) (pm : Perm) (g : Goroutine) (w : World) : Prop where
  opn : ∀ gs sl t q s pmc gc, Cfg P gs g w t pm q (some s) (some s) → Opn b s w t pm pmc → gs[s]? = some gc → ChildAt P b us pmc gc w → RunTo P Post (crowd gs w sl) t
  shut : us = [] → ∀ gs sl t q s, Cfg P gs g w t pm q none (some s) → Shut b s w t pm → RunTo P Post (crowd gs w sl) t
def Go0 (P : Program) (Post : Value → World → Prop) : Stage → Perm → Goroutine → World → Prop
  | none => fun pm g w => ∀ gs sl t q, Cfg P gs g w t pm q none none → RunTo P Post (crowd gs w sl) t
  | some (b, us) => GoC P Post b us

theorem ChildAt.rely {P : Program} {b : Nat} {us : List Value} {pmc : Perm} {gc : Goroutine} {w w' : World} (h : ChildAt P b us pmc gc w) (r : Rely pmc w w') : ChildAt P b us pmc gc w' :=
  h.imp (·.rely r) fun ⟨v, us', g₂, z, a, b, c⟩ => ⟨v, us', g₂, z, a, b, fun w₂ r₂ => c w₂ (r.trans r₂)⟩
theorem ChildAt.status {P : Program} {b : Nat} {us : List Value} {pmc : Perm} {gc : Goroutine} {w : World} (h : ChildAt P b us pmc gc w) : gc.status = .running ∨ gc.status = .blocked := by
  rcases h with h | ⟨v, us', g₂, z, _, rfl, _⟩
  · exact .inl h.unfold.running
  · exact .inr rfl
theorem ChildAt.woken {P : Program} {b : Nat} {us : List Value} {pmc : Perm} {gc : Goroutine} {w w' : World} (h : ChildAt P b us pmc gc w) {sn rc : Nat} {tm : Bool} (hc : w'.heap[b]? = some (.chan 0 #[] false sn rc tm)) (x x' : Goroutine) : woken P x x' w' gc = gc := by
  rcases h with h | ⟨v, us', g₂, z, _, rfl, _⟩
  · exact woken_run h.unfold.running
  · exact woken_send_open x x' hc
end Go.Det
namespace Go.Det
open Go.Conc
open Go.ConcN (sumTo upd sumTo_upd upd_ne upd_same)

section
variable {P : Program} {Post : Value → World → Prop}

theorem rely_chan {pm : Perm} {w : World} {b : Nat} {o : Obj} (h : ¬ pm.rd b) : Rely pm w { w with heap := w.heap.setIfInBounds b o } :=
  ⟨by simp, fun c hc => by
    have : b ≠ c := fun e => h (e ▸ hc)
    simp [Array.getElem?_setIfInBounds_ne this], rfl, rfl, rfl⟩

/-- what a step of goroutine 0's brings -/
def Steps (P : Program) (Post : Value → World → Prop) (σ : Stage) (pm : Perm) (g : Goroutine) (w : World) : Prop :=
  ∀ w₁, Rely pm w w₁ → ∃ g' w' es pm', stepG P true g w₁ = .go g' w' es ∧ StepOk pm w₁ pm' w' ∧ (∀ e ∈ es, EvIn pm' e) ∧ Go0 P Post σ pm' g' w'
theorem Steps.rely {σ : Stage} {pm : Perm} {g : Goroutine} {w w' : World} (h : Steps P Post σ pm g w) (r : Rely pm w w') : Steps P Post σ pm g w' := fun w₁ r₁ => h w₁ (r.trans r₁)

theorem step_none {pm : Perm} {g : Goroutine} (hs : g.status = .running) : ∀ (M : Nat) {w : World} (H : Steps P Post none pm g w) (gs : Array Goroutine) (sl : Option (Nat × Nat)) (t : Trace) (q : Nat → Nat), sumTo gs.size q ≤ M → Cfg P gs g w t pm q none none → RunTo P Post (crowd gs w sl) t := by
  intro M
  induction M with
  | zero | succ M ih =>
  all_goals
    intro w H gs sl t q hM h
    obtain ⟨i, x, d, sl', hi, hx, hst⟩ := pick h (.inl hs) (fun s gc hc => by cases hc) ⟨0, g, h.me, hs⟩ sl
    rcases Nat.eq_zero_or_pos i with rfl | hpos
    · rw [h.me] at hi; cases hi
      obtain ⟨g', w', es, pm', h1, h2, h3, h4⟩ := H (w.at d) (rely_at pm w d)
      refine RunTo.next (hst.trans (runT_crowd_go h.me h1)) (h4 _ _ _ q ((h.at d).own h2 h3 (fun s hs => by cases hs)))
    · obtain ⟨x', es, k, hm, hq, hrun, hsum, _⟩ := leave_case h hi hpos (by simp) hx
      have := hsum d
      first
      | (exact absurd this (by omega))
      | exact RunTo.next (hst.trans (hrun sl' d)) (ih (H.rely (rely_at pm w d)) _ _ _ (upd q i k) (by omega) ((h.at d).slip hi hpos hm hq (by simp) (woken_run hs)))

theorem step_shut {pm : Perm} {g : Goroutine} {b : Nat} (hs : g.status = .running) : ∀ (M : Nat) {w : World} (H : Steps P Post (some (b, [])) pm g w) (gs : Array Goroutine) (sl : Option (Nat × Nat)) (t : Trace) (q : Nat → Nat) (s : Nat), sumTo gs.size q ≤ M → Cfg P gs g w t pm q none (some s) → Shut b s w t pm → RunTo P Post (crowd gs w sl) t := by
  intro M
  induction M with
  | zero | succ M ih =>
  all_goals
    intro w H gs sl t q s hM h hsh
    obtain ⟨i, x, d, sl', hi, hx, hst⟩ := pick h (.inl hs) (fun s gc hc => by cases hc) ⟨0, g, h.me, hs⟩ sl
    rcases Nat.eq_zero_or_pos i with rfl | hpos
    · rw [h.me] at hi; cases hi
      obtain ⟨g', w', es, pm', h1, h2, h3, h4⟩ := H (w.at d) (rely_at pm w d)
      refine RunTo.next (hst.trans (runT_crowd_go h.me h1)) (h4.shut rfl _ _ _ q s ((h.at d).own h2 h3 (fun s hs => by cases hs)) ((hsh.at d).own h2))
    · obtain ⟨x', es, k, hm, hq, hrun, hsum, _⟩ := leave_case h hi hpos (by simp) hx
      have := hsum d
      have hmute : ∀ op ∈ MemOp.ofEvents i x.frame.fn x.frame.place es, op.act.touch? = none := fun op hop => by obtain ⟨e, he, rfl⟩ := memEv hop; exact touch_mute (hm e he)
      first
      | (exact absurd this (by omega))
      | exact RunTo.next (hst.trans (hrun sl' d)) (ih (H.rely (rely_at pm w d)) _ _ _ (upd q i k) s (by omega) ((h.at d).slip hi hpos hm hq (by simp) (woken_run hs)) ((hsh.at d).app (fun op hop _ => hmute op hop) rfl hsh.nb))

/-- the sender waits -/
theorem step_wait {pm : Perm} {g : Goroutine} {b : Nat} {v : Value} {us : List Value} (hs : g.status = .running) : ∀ (M : Nat) {w : World} (H : Steps P Post (some (b, v :: us)) pm g w) (gs : Array Goroutine) (sl : Option (Nat × Nat)) (t : Trace) (q : Nat → Nat) (s : Nat) (pmc : Perm) (g₂ : Goroutine) (z : Value),
    sumTo gs.size q ≤ M → Cfg P gs g w t pm q (some s) (some s) → Opn b s w t pm pmc → gs[s]? = some (parked g₂ #[scase b v z] .send) → (∀ w₂, Rely pmc w w₂ → Snd P b us pmc (Conc.served g₂ undef) w₂) → RunTo P Post (crowd gs w sl) t := by
  intro M
  induction M with
  | zero | succ M ih =>
  all_goals
    intro w H gs sl t q s pmc g₂ z hM h ho hc hK
    have hca : ChildAt P b (v :: us) pmc (parked g₂ #[scase b v z] .send) w := .inr ⟨v, us, g₂, z, rfl, rfl, hK⟩
    obtain ⟨i, x, d, sl', hi, hx, hst⟩ := pick h (.inl hs) (fun s' gc hc' hg => by cases hc'; rw [hc] at hg; cases hg; exact .inr rfl) ⟨0, g, h.me, hs⟩ sl
    rcases Nat.eq_zero_or_pos i with rfl | hpos
    · rw [h.me] at hi; cases hi
      obtain ⟨g', w', es, pm', h1, h2, h3, h4⟩ := H (w.at d) (rely_at pm w d)
      have s0 := ho.s0
      have ho' := (ho.at d).own (fn := g.frame.fn) (pos := g.frame.place) h.kn h2 h3
      obtain ⟨sn, rc, tm, hch⟩ := ho'.chan
      refine RunTo.next (hst.trans (runT_crowd_go h.me h1)) (h4.opn _ _ _ q s pmc (parked g₂ #[scase b v z] .send) ((h.at d).own h2 h3 (fun s' hs' => by cases hs'; exact s0)) ho' ?_ (hca.rely ((rely_at pmc w d).trans (h2.relyOf (ho.at d).sep (ho.at d).pmoc))))
      rw [get_map_other (by omega), hc]
      simp [woken_send_open _ _ hch]
    · by_cases his : i = s
      · subst his
        rw [hc] at hi; cases hi; cases hx
      · obtain ⟨x', es, k, hm, hq, hrun, hsum, _⟩ := leave_case h hi hpos (by simp; omega) hx
        have := hsum d
        obtain ⟨sn, rc, tm, hch⟩ := ho.chan
        first
        | (exact absurd this (by omega))
        | (refine RunTo.next (hst.trans (hrun sl' d)) (ih (H.rely (rely_at pm w d)) _ _ _ (upd q i k) s pmc g₂ z (by omega) ((h.at d).slip hi hpos hm hq (by simp; omega) (woken_run hs)) ((ho.at d).slip hm his) ?_ (fun w₂ r => hK w₂ ((rely_at pmc w d).trans r)))
           rw [get_map_other his, hc]
           simp [woken_send_open (w := w.at d) _ _ hch])

theorem closeOps (s : Nat) (fn : FuncId) (pos : String) (b : Nat) : MemOp.ofEvents s fn pos #[⟨.obj b, false, true⟩, ⟨.obj b, true, true⟩] = #[{ g := s, fn, pos, act := .access ⟨.obj b, false, true⟩ }] ++ #[{ g := s, fn, pos, act := .close b }] := by
  rw [ofEvents_eq]; simp [MemAct.ofEvent]
/-- the sender closes the channel -/
theorem Cfg.closes {gs : Array Goroutine} {g : Goroutine} {w : World} {t : Trace} {pm pmc : Perm} {q : Nat → Nat} {b s : Nat} (h : Cfg P gs g w t pm q (some s) (some s)) (ho : Opn b s w t pm pmc) {x g₂ : Goroutine} {n sn rc : Nat} {tm : Bool} (hi : gs[s]? = some x)
    (hc : w.heap[b]? = some (.chan 0 #[] false sn rc tm)) (hq : QuitsIn P n g₂) {gs' : Array Goroutine} {g' : Goroutine} (h0 : gs'[0]? = some g') (hsz : gs'.size = gs.size) (hs : gs'[s]? = some g₂) (hoth : ∀ i y, 0 < i → i ≠ s → gs'[i]? = some y → gs[i]? = some y) {fn : FuncId} {pos : String} :
    Cfg P gs' g' (w.shut b sn rc tm) (t ++ MemOp.ofEvents s fn pos #[⟨.obj b, false, true⟩, ⟨.obj b, true, true⟩]) pm (upd q s n) none (some s) ∧ Shut b s (w.shut b sn rc tm) (t ++ MemOp.ofEvents s fn pos #[⟨.obj b, false, true⟩, ⟨.obj b, true, true⟩]) pm := by
  have s0 := ho.s0
  have hb : b < w.heap.size := (Array.getElem?_eq_some_iff.1 hc).1
  have hsize : (w.shut b sn rc tm).heap.size = w.heap.size := by simp [World.shut]
  have hgo : ∀ op ∈ MemOp.ofEvents s fn pos #[⟨.obj b, false, true⟩, ⟨.obj b, true, true⟩], op.g = s := fun op hop => by obtain ⟨e, _, rfl⟩ := memEv hop; rfl
  have htouch : ∀ op ∈ MemOp.ofEvents s fn pos #[⟨.obj b, false, true⟩, ⟨.obj b, true, true⟩], ∀ a, op.act.touch? = some a → a.loc = .obj b := by
    intro op hop a ha
    rw [closeOps] at hop
    simp at hop
    rcases hop with rfl | rfl
    · cases ha; rfl
    · cases ha
  have hlow : ∀ op ∈ MemOp.ofEvents s fn pos #[⟨.obj b, false, true⟩, ⟨.obj b, true, true⟩], op.act.low w.heap.size := by
    intro op hop
    rw [closeOps] at hop
    simp at hop
    rcases hop with rfl | rfl <;> exact hb
  have hhear : ∀ op ∈ MemOp.ofEvents s fn pos #[⟨.obj b, false, true⟩, ⟨.obj b, true, true⟩], op.act ≠ .mark .disable ∧ op.act ≠ .mark .enable := by
    intro op hop
    rw [closeOps] at hop
    simp at hop
    rcases hop with rfl | rfl <;> exact ⟨by simp, by simp⟩
  have hdeaf : ∀ j, Deaf (t ++ MemOp.ofEvents s fn pos #[⟨.obj b, false, true⟩, ⟨.obj b, true, true⟩]) j = Deaf t j := fun j => Go.ConcN.Deaf_still t j _ hhear
  have hblk : ∀ a : Touch, a.loc = .obj b → blk a.loc = some b := fun a e => by rw [e]; rfl
  have hlt : s < gs.size := (Array.getElem?_eq_some_iff.1 hi).1
  refine ⟨⟨h0, h.pmo.size (Nat.le_of_eq hsize.symm), ⟨fun k a c h1 h2 h3 => ?_, fun k a c h1 h2 h3 h4 => ?_⟩, ⟨fun said => noRace_append (h.tr.clean said) hgo fun i a ha op hop x hx hcf => ?_, ?_, fun i op ho' hg ht => ?_, by rw [hdeaf]; exact h.tr.hears⟩, fun i y hi0 _ hy => ?_, fun j hj => ?_⟩, ⟨s0, ⟨sn, rc, tm, heap_put hc⟩, ho.nb.1, ?_⟩⟩
  · obtain ⟨op, hop, hoa⟩ := touch_of h1
    rcases getElem?_append_cases hop with ⟨_, hop'⟩ | ⟨_, hou⟩
    · exact (h.kn.w k a c (by rw [touchAt_of hop']; exact hoa) h2 h3).app _
    · rw [hblk a (htouch op hou a hoa)] at h2; cases h2; exact absurd h3 ho.nb.1.2
  · obtain ⟨op, hop, hoa⟩ := touch_of h1
    rcases getElem?_append_cases hop with ⟨_, hop'⟩ | ⟨_, hou⟩
    · exact (h.kn.r k a c (by rw [touchAt_of hop']; exact hoa) h2 h3 h4).app _
    · rw [hblk a (htouch op hou a hoa)] at h2; cases h2; exact absurd h3 ho.nb.1.1
  · exact ho.kb i a ha (hblk a (by rw [hcf.1]; exact htouch op hop x hx))
  · rw [hsize]; exact seen_app h.tr.seen hlow
  · rcases getElem?_append_cases ho' with ⟨_, ho''⟩ | ⟨_, hou⟩
    · exact (h.tr.over i op ho'' hg ht).imp (·.app _) id
    · exact .inr (by rw [hgo op hou])
  · by_cases hsi : i = s
    · subst hsi
      rw [hs] at hy; cases hy
      rw [upd_same, hdeaf, ho.cd]
      exact QuitsD.of_quitsIn hq
    · rw [upd_ne q n hsi, hdeaf]
      exact h.lv i y hi0 (by simp; omega) (hoth i y hi0 hsi hy)
  · rw [hdeaf]; exact h.above j (by omega)
  · have hp : (t ++ MemOp.ofEvents s fn pos #[⟨.obj b, false, true⟩, ⟨.obj b, true, true⟩])[t.size + 1]? = some { g := s, fn, pos, act := .close b } := by
      rw [Array.getElem?_append_right (by omega), closeOps]
      simp
    refine ⟨t.size + 1, act?_of hp, ⟨s, by simp [Trace.g?, hp], ?_⟩, fun i op hop hg ht => ?_⟩
    · have e : t ++ MemOp.ofEvents s fn pos #[⟨.obj b, false, true⟩, ⟨.obj b, true, true⟩] = (t ++ #[{ g := s, fn, pos, act := .access ⟨.obj b, false, true⟩ }]) ++ #[{ g := s, fn, pos, act := .close b }] := by rw [closeOps, Array.append_assoc]
      rw [e, show t.size + 1 = (t ++ #[({ g := s, fn, pos, act := .access ⟨.obj b, false, true⟩ } : MemOp)]).size by simp, deaf_old (Nat.le_refl _)]
      have := Go.ConcN.Deaf_still t s #[({ g := s, fn, pos, act := .access ⟨.obj b, false, true⟩ } : MemOp)] (by simp)
      rw [ho.cd] at this
      exact this
    · have hil := lt_size_of_getElem? hop
      have hsz2 : (MemOp.ofEvents s fn pos #[⟨.obj b, false, true⟩, ⟨.obj b, true, true⟩]).size = 2 := by rw [closeOps]; rfl
      rw [Array.size_append, hsz2] at hil
      rcases Nat.lt_or_ge i (t.size + 1) with hlt' | hge
      · exact .inr (hb_po hlt' hop hp hg)
      · have : i = t.size + 1 := by omega
        subst this
        rw [hp] at hop; cases hop
        exact absurd rfl ht

theorem nobody_else {gs : Array Goroutine} {g : Goroutine} {w : World} {t : Trace} {pm : Perm} {q : Nat → Nat} {s : Nat} {src : Option Nat} (h : Cfg P gs g w t pm q (some s) src) (hg : g.status ≠ .blocked) (r : Nat) (send : Bool) :
    partners (gs.setIfInBounds s ph) r send = [] := by
  refine partners_nil fun j x hx => ?_
  rcases getElem?_stand gs s j x hx with ⟨_, rfl⟩ | ⟨hjs, hx'⟩
  · exact offersAt_ph r send
  · rcases Nat.eq_zero_or_pos j with rfl | hj
    · rw [h.me] at hx'; cases hx'; exact offersAt_of_not_blocked hg r send
    · exact offers_other h hj (by simp; omega) hx' r send

/-- the sender is on its way -/
theorem step_open {pm : Perm} {g : Goroutine} {b : Nat} (hs : g.status = .running) {us : List Value} {pmc : Perm} {gc : Goroutine} {wc : World} (hsnd : Snd P b us pmc gc wc) :
    ∀ (w : World), Rely pmc wc w → Steps P Post (some (b, us)) pm g w → ∀ (gs : Array Goroutine) (sl : Option (Nat × Nat)) (t : Trace) (q : Nat → Nat) (s : Nat), Cfg P gs g w t pm q (some s) (some s) → Opn b s w t pm pmc → gs[s]? = some gc → RunTo P Post (crowd gs w sl) t := by
  refine Snd.ind (Q := fun us pmc gc wc => ∀ (w : World), Rely pmc wc w → Steps P Post (some (b, us)) pm g w → ∀ (gs : Array Goroutine) (sl : Option (Nat × Nat)) (t : Trace) (q : Nat → Nat) (s : Nat), Cfg P gs g w t pm q (some s) (some s) → Opn b s w t pm pmc → gs[s]? = some gc → RunTo P Post (crowd gs w sl) t) ?_ hsnd
  intro us pmc gc wc F
  have hF : Snd P b us pmc gc wc := Snd.fold (F.mono fun _ _ _ _ x => x.1)
  have main : ∀ (M : Nat) (w : World), Rely pmc wc w → Steps P Post (some (b, us)) pm g w → ∀ (gs : Array Goroutine) (sl : Option (Nat × Nat)) (t : Trace) (q : Nat → Nat) (s : Nat), sumTo gs.size q ≤ M → Cfg P gs g w t pm q (some s) (some s) → Opn b s w t pm pmc → gs[s]? = some gc → RunTo P Post (crowd gs w sl) t := by
    intro M
    induction M with
    | zero | succ M ih =>
    all_goals
      intro w hr H gs sl t q s hM h ho hc
      have s0 := ho.s0
      have hrun := hF.unfold.running
      have hlt : s < gs.size := (Array.getElem?_eq_some_iff.1 hc).1
      obtain ⟨i, x, d, sl', hi, hx, hst⟩ := pick h (.inl hs) (fun s' gc' hc' hg => by cases hc'; rw [hc] at hg; cases hg; exact .inl hrun) ⟨0, g, h.me, hs⟩ sl
      have hrd := hr.trans (rely_at pmc w d)
      rcases Nat.eq_zero_or_pos i with rfl | hpos
      · rw [h.me] at hi; cases hi
        obtain ⟨g', w', es, pm', h1, h2, h3, h4⟩ := H (w.at d) (rely_at pm w d)
        refine RunTo.next (hst.trans (runT_crowd_go h.me h1)) (h4.opn _ _ _ q s pmc gc ((h.at d).own h2 h3 (fun s' hs' => by cases hs'; exact s0)) ((ho.at d).own h.kn h2 h3) ?_ (.inl (hF.rely (hrd.trans (h2.relyOf (ho.at d).sep (ho.at d).pmoc)))))
        rw [get_map_other (by omega), hc]
        simp [woken_run hrun]
      · by_cases his : i = s
        · subst his
          rw [hc] at hi; cases hi
          have hi0 : (i == 0) = false := by simp; omega
          cases F with
          | step _ k =>
            obtain ⟨g', w', es, pm', h1, h2, h3, h4, h5⟩ := k (w.at d) hrd
            obtain ⟨c1, c2, c3⟩ := (h.at d).child (ho.at d) hc h2 h3 (woken_run hs)
            refine RunTo.next (hst.trans (runT_crowd_go hc (by rw [hi0]; exact h1))) (h5 w' (Rely.refl _ _) (H.rely ((rely_at pm w d).trans c3)) _ _ _ q i c1 c2 ?_)
            simp [hlt]
          | @send v us _ _ _ _ k =>
            obtain ⟨g₂, z, h1, h2⟩ := k (w.at d) hrd
            obtain ⟨sn, rc, tm, hch⟩ := (ho.at d).chan
            have hw := crowd_waits (sl := sl') hc (by rw [hi0]; exact h1) (by
              intro cc hcc
              simp at hcc
              subst hcc
              exact ways_send_none hch (by simp) (nobody_else h (by rw [hs]; simp) b false))
            refine RunTo.next (hst.trans hw) ?_
            rw [ofEvents_none, Array.append_empty]
            refine step_wait hs _ (H.rely (rely_at pm w d)) _ _ _ q i pmc g₂ z (Nat.le_refl _) ?_ (ho.at d) (by simp [hlt]) fun w₂ r => (h2 w₂ r).1
            have := (h.at d).comm (gs' := gs.setIfInBounds i (parked g₂ #[scase b v z] .send)) (g' := g) (w' := w.at d) (u := #[]) (by rw [Array.getElem?_setIfInBounds_ne (by omega)]; exact h.me) (by simp) (fun j hj hja => by
              have : i ≠ j := fun e => hja (by rw [e])
              rw [Array.getElem?_setIfInBounds_ne this]) rfl comms_nil
            rwa [Array.append_empty] at this
          | close _ hmw k =>
            obtain ⟨sn, rc, tm, hch⟩ := (ho.at d).chan
            obtain ⟨g₂, n, h1, h2⟩ := k (w.at d) sn rc tm hrd hch
            obtain ⟨c1, c2⟩ := (h.at d).closes (ho.at d) hc hch h2 (gs' := (gs.map (woken P gc g₂ ((w.at d).shut b sn rc tm))).setIfInBounds i g₂) (g' := g) (by rw [get_map_other (by omega), h.me]; simp [woken_run hs]) (by simp) (by simp [hlt]) (fun j y hj hji hy => by
              rw [get_map_other (by omega)] at hy
              obtain ⟨z, hz, rfl⟩ := Option.map_eq_some_iff.1 hy
              rw [woken_quitsD (h.lv j z hj (by simp; omega) hz)]
              exact hz) (fn := gc.frame.fn) (pos := gc.frame.place)
            refine RunTo.next (hst.trans (runT_crowd_go hc (by rw [hi0]; exact h1))) (step_shut hs _ (H.rely ((rely_at pm w d).trans (rely_chan ho.nb.1.1))) _ _ _ _ i (Nat.le_refl _) c1 c2)
        · obtain ⟨x', es, k, hm, hq, hrun', hsum, _⟩ := leave_case h hi hpos (by simp; omega) hx
          have := hsum d
          first
          | (exact absurd this (by omega))
          | (refine RunTo.next (hst.trans (hrun' sl' d)) (ih (w.at d) hrd (H.rely (rely_at pm w d)) _ _ _ (upd q i k) s (by omega) ((h.at d).slip hi hpos hm hq (by simp; omega) (woken_run hs)) ((ho.at d).slip hm his) ?_)
             rw [get_map_other his, hc]
             simp [woken_run hrun])
  intro w hr H gs sl t q s h ho hc
  exact main _ w hr H gs sl t q s (Nat.le_refl _) h ho hc

/-- **goroutine 0 takes a step** -/
theorem go0_step {σ : Stage} {pm : Perm} {g : Goroutine} {w : World} (hs : g.status = .running) (H : Steps P Post σ pm g w) : Go0 P Post σ pm g w := by
  match σ, H with
  | none, H => exact fun gs sl t q h => step_none hs _ H gs sl t q (Nat.le_refl _) h
  | some (b, us), H =>
    refine ⟨fun gs sl t q s pmc gc h ho hc hch => ?_, fun hus gs sl t q s h hsh => ?_⟩
    · rcases hch with hch | ⟨v, us', g₂, z, rfl, rfl, hK⟩
      · exact step_open hs hch w (Rely.refl _ _) H gs sl t q s h ho hc
      · exact step_wait hs _ H gs sl t q s pmc g₂ z (Nat.le_refl _) h ho hc hK
    · subst hus
      exact step_shut hs _ H gs sl t q s (Nat.le_refl _) h hsh

def ctx0 (P : Program) (Post : Value → World → Prop) : Ctx P where
  main := true
  Go := Go0 P Post
  step hs h := go0_step hs h
end
end Go.Det
namespace Go.Det
open Go.Conc
open Go.ConcN (sumTo upd sumTo_upd upd_ne upd_same)

section
variable {P : Program} {Post : Value → World → Prop}

/-- the receiver finds the channel closed: what the sender did is handed over -/
theorem Cfg.joins {gs : Array Goroutine} {g : Goroutine} {w : World} {t : Trace} {pm : Perm} {q : Nat → Nat} {b s : Nat} (h : Cfg P gs g w t pm q none (some s)) (hsh : Shut b s w t pm) {gs' : Array Goroutine} {g' : Goroutine} (h0 : gs'[0]? = some g') (hsz : gs'.size = gs.size)
    (hoth : ∀ i, 0 < i → gs'[i]? = gs[i]?) {fn : FuncId} {pos : String} : Cfg P gs' g' w (t ++ #[{ g := 0, fn, pos, act := .recvClosed b }]) pm q none none := by
  obtain ⟨sn, rc, tm, hc⟩ := hsh.chan
  have hb : b < w.heap.size := (Array.getElem?_eq_some_iff.1 hc).1
  have c := h.comm (gs' := gs') (g' := g') (w' := w) h0 hsz (fun i hi _ => hoth i hi) rfl (comms_closed (i := 0) (f := fn) (p := pos) hb)
  obtain ⟨p, p1, p2, p3⟩ := hsh.cl
  have hpl := lt_of_act? p1
  have hlast : (t ++ #[({ g := 0, fn, pos, act := .recvClosed b } : MemOp)])[t.size]? = some { g := 0, fn, pos, act := .recvClosed b } := by simp
  have heard : (t ++ #[({ g := 0, fn, pos, act := .recvClosed b } : MemOp)]).heard t.size := ⟨0, by simp [Trace.g?], by rw [deaf_old (Nat.le_refl _)]; exact h.tr.hears⟩
  have kp : Knows (t ++ #[({ g := 0, fn, pos, act := .recvClosed b } : MemOp)]) 0 p :=
    ⟨t.size, _, hlast, rfl, .inr (.single (.inr ⟨.closed (c := b) (by rw [act?_old hpl]; exact p1) (act?_of hlast), (heard_old hpl).2 p2, heard⟩))⟩
  refine ⟨c.me, c.pmo, c.kn, ⟨c.tr.clean, c.tr.seen, fun i op ho hg ht => .inl ?_, c.tr.hears⟩, c.lv, c.above⟩
  rcases c.tr.over i op ho hg ht with x | x
  · exact x
  · have hgs : op.g = s := Option.some.inj x
    rcases getElem?_append_cases ho with ⟨_, ho'⟩ | ⟨_, hou⟩
    · exact Knows.of_before ((p3 i op ho' hgs ht).app _) kp
    · simp at hou
      subst hou
      exact absurd rfl hg

/-- goroutine 0 stands at a receive -/
structure Recv (P : Program) (b : Nat) (ok : Bool) (z : Value) (pm : Perm) (g gr : Goroutine) (w : World) : Prop where
  run : gr.status = .running
  step : ∀ w₁, Rely pm w w₁ → stepG P true gr w₁ = .comm g #[rcase b z] true (.recv ok) w₁ #[]
theorem Recv.rely {b : Nat} {ok : Bool} {z : Value} {pm : Perm} {g gr : Goroutine} {w w' : World} (h : Recv P b ok z pm g gr w) (r : Rely pm w w') : Recv P b ok z pm g gr w' := ⟨h.run, fun w₁ r₁ => h.step w₁ (r.trans r₁)⟩

def RecvK (P : Program) (Post : Value → World → Prop) (b : Nat) (ok : Bool) (z : Value) (pm : Perm) (g : Goroutine) (w : World) : List Value → Prop
  | [] => ∀ w₂, Rely pm w w₂ → Go0 P Post none pm (Conc.served g (recvd ok z false)) w₂
  | v :: us => ∀ w₂, Rely pm w w₂ → Go0 P Post (some (b, us)) pm (Conc.served g (recvd ok v true)) w₂
theorem RecvK.rely {b : Nat} {ok : Bool} {z : Value} {pm : Perm} {g : Goroutine} {w w' : World} {us : List Value} (h : RecvK P Post b ok z pm g w us) (r : Rely pm w w') : RecvK P Post b ok z pm g w' us := by
  cases us with
  | nil => exact fun w₂ r₂ => h w₂ (r.trans r₂)
  | cons v us => exact fun w₂ r₂ => h w₂ (r.trans r₂)

/-- closed -/
theorem recv_shut {b : Nat} {ok : Bool} {z : Value} {pm : Perm} {g gr : Goroutine} : ∀ (M : Nat) {w : World} (R : Recv P b ok z pm g gr w) (K : RecvK P Post b ok z pm g w []) (gs : Array Goroutine) (sl : Option (Nat × Nat)) (t : Trace) (q : Nat → Nat) (s : Nat),
    sumTo gs.size q ≤ M → Cfg P gs gr w t pm q none (some s) → Shut b s w t pm → RunTo P Post (crowd gs w sl) t := by
  intro M
  induction M with
  | zero | succ M ih =>
  all_goals
    intro w R K gs sl t q s hM h hsh
    obtain ⟨i, x, d, sl', hi, hx, hst⟩ := pick h (.inl R.run) (fun s gc hc => by cases hc) ⟨0, gr, h.me, R.run⟩ sl
    rcases Nat.eq_zero_or_pos i with rfl | hpos
    · rw [h.me] at hi; cases hi
      obtain ⟨sn, rc, tm, hch⟩ := (hsh.at d).chan
      have hp : partners (gs.setIfInBounds 0 ph) b true = [] := partners_nil fun j y hy => by
        rcases getElem?_stand gs 0 j y hy with ⟨_, rfl⟩ | ⟨hj0, hy'⟩
        · exact offersAt_ph b true
        · exact offers_other h (by omega) (by simp) hy' b true
      have hrun := crowd_recv_closed (sl := sl') h.me (R.step (w.at d) (rely_at pm w d)) hch hp
      rw [finishComm_recv] at hrun
      refine RunTo.next (hst.trans hrun) ?_
      rw [ofEvents_none, Array.empty_append]
      have hlt : 0 < gs.size := (Array.getElem?_eq_some_iff.1 h.me).1
      exact K (w.at d) (rely_at pm w d) _ _ _ q ((h.at d).joins (hsh.at d) (by simp [hlt]) (by simp) fun j hj => by rw [Array.getElem?_setIfInBounds_ne (by omega)])
    · obtain ⟨x', es, k, hm, hq, hrun, hsum, _⟩ := leave_case h hi hpos (by simp) hx
      have := hsum d
      have hmute : ∀ op ∈ MemOp.ofEvents i x.frame.fn x.frame.place es, op.act.touch? = none := fun op hop => by obtain ⟨e, he, rfl⟩ := memEv hop; exact touch_mute (hm e he)
      first
      | (exact absurd this (by omega))
      | exact RunTo.next (hst.trans (hrun sl' d)) (ih (R.rely (rely_at pm w d)) (K.rely (rely_at pm w d)) _ _ _ (upd q i k) s (by omega) ((h.at d).slip hi hpos hm hq (by simp) (woken_run R.run)) ((hsh.at d).app (fun op hop _ => hmute op hop) rfl hsh.nb))

/-- the sender waits -/
theorem recv_wait {b : Nat} {ok : Bool} {z v : Value} {us : List Value} {pm : Perm} {g gr : Goroutine} : ∀ (M : Nat) {w : World} (R : Recv P b ok z pm g gr w) (K : RecvK P Post b ok z pm g w (v :: us)) (gs : Array Goroutine) (sl : Option (Nat × Nat)) (t : Trace) (q : Nat → Nat) (s : Nat) (pmc : Perm) (g₂ : Goroutine) (z' : Value),
    sumTo gs.size q ≤ M → Cfg P gs gr w t pm q (some s) (some s) → Opn b s w t pm pmc → gs[s]? = some (parked g₂ #[scase b v z'] .send) → (∀ w₂, Rely pmc w w₂ → Snd P b us pmc (Conc.served g₂ undef) w₂) → RunTo P Post (crowd gs w sl) t := by
  intro M
  induction M with
  | zero | succ M ih =>
  all_goals
    intro w R K gs sl t q s pmc g₂ z' hM h ho hc hK
    have s0 := ho.s0
    obtain ⟨sn, rc, tm, hch⟩ := (ho.at 0).chan
    have hb : b < w.heap.size := (Array.getElem?_eq_some_iff.1 hch).1
    have hlt : 0 < gs.size := (Array.getElem?_eq_some_iff.1 h.me).1
    have hlts : s < gs.size := (Array.getElem?_eq_some_iff.1 hc).1
    obtain ⟨i, x, d, sl', hi, hx, hst⟩ := pick h (.inl R.run) (fun s' gc hc' hg => by cases hc'; rw [hc] at hg; cases hg; exact .inr rfl) ⟨0, gr, h.me, R.run⟩ sl
    rcases Nat.eq_zero_or_pos i with rfl | hpos
    · rw [h.me] at hi; cases hi
      have hj' : (gs.setIfInBounds 0 ph)[s]? = some (parked g₂ #[scase b v z'] .send) := by rw [Array.getElem?_setIfInBounds_ne (by omega)]; exact hc
      have hp : partners (gs.setIfInBounds 0 ph) b true = [(s, 0)] := by
        rw [partners_one hj' fun k y hk hy => ?_, offersAt_parked_send, if_pos rfl]
        · rfl
        · rcases getElem?_stand gs 0 k y hy with ⟨_, rfl⟩ | ⟨hk0, hy'⟩
          · exact offersAt_ph b true
          · exact offers_other h (by omega) (by simp; omega) hy' b true
      have hrun := crowd_recv_meets (sl := sl') h.me (R.step (w.at d) (rely_at pm w d)) hch (by omega) hc hp
      rw [finishComm_recv, finishComm_send] at hrun
      refine RunTo.next (hst.trans hrun) ?_
      rw [ofEvents_none, Array.empty_append]
      have hrel : Rely pm w ((w.at d).setChan b 0 #[] false (sn + 1) (rc + 1) tm) := (rely_at pm w d).trans (rely_chan ho.nb.1.1)
      have hrelc : Rely pmc w ((w.at d).setChan b 0 #[] false (sn + 1) (rc + 1) tm) := (rely_at pmc w d).trans (rely_chan ho.nb.2.1)
      have hcm := comms_meet (b := b) (c := 0) (s := sn) (r := rc) (i := s) (j := 0) (f := g₂.frame.fn) (f' := g.frame.fn) (p := g₂.frame.place) (p' := g.frame.place) hb
      have hsz : ((w.at d).setChan b 0 #[] false (sn + 1) (rc + 1) tm).heap.size = w.heap.size := by simp [World.setChan, World.at]
      refine (K _ hrel).opn _ _ _ q s pmc (Conc.served g₂ undef) ((h.at d).comm ?_ (by simp) (fun j hj hja => ?_) hsz hcm) ((ho.at d).comm hsz ⟨_, _, _, by unfold World.setChan; exact heap_put hch⟩ hcm) ?_ (.inl (hK _ hrelc))
      · simp [hlt]
      · have h1 : s ≠ j := fun e => hja (by rw [e])
        rw [Array.getElem?_setIfInBounds_ne (by omega), Array.getElem?_setIfInBounds_ne h1]
      · rw [Array.getElem?_setIfInBounds_ne (by omega)]
        simp [hlts]
    · by_cases his : i = s
      · subst his
        rw [hc] at hi; cases hi; cases hx
      · obtain ⟨x', es, k, hm, hq, hrun, hsum, _⟩ := leave_case h hi hpos (by simp; omega) hx
        have := hsum d
        first
        | (exact absurd this (by omega))
        | (refine RunTo.next (hst.trans (hrun sl' d)) (ih (R.rely (rely_at pm w d)) (K.rely (rely_at pm w d)) _ _ _ (upd q i k) s pmc g₂ z' (by omega) ((h.at d).slip hi hpos hm hq (by simp; omega) (woken_run R.run)) ((ho.at d).slip hm his) ?_ (fun w₂ r => hK w₂ ((rely_at pmc w d).trans r)))
           rw [get_map_other his, hc]
           simp [woken_send_open (w := w.at d) _ _ hch])

theorem leave_woken {x x' : Goroutine} {w : World} {g : Goroutine} {b sn rc : Nat} {tm ok : Bool} {z : Value} (hc : w.heap[b]? = some (.chan 0 #[] false sn rc tm)) : woken P x x' w (parked g #[rcase b z] (.recv ok)) = parked g #[rcase b z] (.recv ok) := woken_recv_open x x' hc

/-- goroutine 0 waits, the sender is on its way -/
theorem recv_parked {b : Nat} {ok : Bool} {z : Value} {pm : Perm} {g gr : Goroutine} (hdy : ∀ w, stepG P true { parked g #[rcase b z] (.recv ok) with status := .running } w = stepG P true gr w) {us : List Value} {pmc : Perm} {gc : Goroutine} {wc : World} (hsnd : Snd P b us pmc gc wc) :
    ∀ (w : World), Rely pmc wc w → Recv P b ok z pm g gr w → RecvK P Post b ok z pm g w us → ∀ (gs : Array Goroutine) (sl : Option (Nat × Nat)) (t : Trace) (q : Nat → Nat) (s : Nat), Cfg P gs (parked g #[rcase b z] (.recv ok)) w t pm q (some s) (some s) → Opn b s w t pm pmc → gs[s]? = some gc → RunTo P Post (crowd gs w sl) t := by
  refine Snd.ind (Q := fun us pmc gc wc => ∀ (w : World), Rely pmc wc w → Recv P b ok z pm g gr w → RecvK P Post b ok z pm g w us → ∀ (gs : Array Goroutine) (sl : Option (Nat × Nat)) (t : Trace) (q : Nat → Nat) (s : Nat), Cfg P gs (parked g #[rcase b z] (.recv ok)) w t pm q (some s) (some s) → Opn b s w t pm pmc → gs[s]? = some gc → RunTo P Post (crowd gs w sl) t) ?_ hsnd
  intro us pmc gc wc F
  have hF : Snd P b us pmc gc wc := Snd.fold (F.mono fun _ _ _ _ x => x.1)
  have main : ∀ (M : Nat) (w : World), Rely pmc wc w → Recv P b ok z pm g gr w → RecvK P Post b ok z pm g w us → ∀ (gs : Array Goroutine) (sl : Option (Nat × Nat)) (t : Trace) (q : Nat → Nat) (s : Nat), sumTo gs.size q ≤ M → Cfg P gs (parked g #[rcase b z] (.recv ok)) w t pm q (some s) (some s) → Opn b s w t pm pmc → gs[s]? = some gc → RunTo P Post (crowd gs w sl) t := by
    intro M
    induction M with
    | zero | succ M ih =>
    all_goals
      intro w hr R K gs sl t q s hM h ho hc
      have s0 := ho.s0
      have hrun := hF.unfold.running
      have hlt : s < gs.size := (Array.getElem?_eq_some_iff.1 hc).1
      have hlt0 : 0 < gs.size := (Array.getElem?_eq_some_iff.1 h.me).1
      obtain ⟨i, x, d, sl', hi, hx, hst⟩ := pick h (.inr rfl) (fun s' gc' hc' hg => by cases hc'; rw [hc] at hg; cases hg; exact .inl hrun) ⟨s, gc, hc, hrun⟩ sl
      have hrd := hr.trans (rely_at pmc w d)
      obtain ⟨sn, rc, tm, hch⟩ := (ho.at d).chan
      have hb : b < w.heap.size := (Array.getElem?_eq_some_iff.1 hch).1
      rcases Nat.eq_zero_or_pos i with rfl | hpos
      · rw [h.me] at hi; cases hi; cases hx
      · by_cases his : i = s
        · subst his
          rw [hc] at hi; cases hi
          have hi0 : (i == 0) = false := by simp; omega
          cases F with
          | step _ k =>
            obtain ⟨g', w', es, pm', h1, h2, h3, h4, h5⟩ := k (w.at d) hrd
            have hch' : ∃ sn rc tm, w'.heap[b]? = some (.chan 0 #[] false sn rc tm) := ⟨sn, rc, tm, by rw [h2.old b hb ho.nb.2.2]; exact hch⟩
            obtain ⟨sn', rc', tm', hch'⟩ := hch'
            obtain ⟨c1, c2, c3⟩ := (h.at d).child (ho.at d) hc h2 h3 (leave_woken hch')
            refine RunTo.next (hst.trans (runT_crowd_go hc (by rw [hi0]; exact h1))) (h5 w' (Rely.refl _ _) (R.rely ((rely_at pm w d).trans c3)) (K.rely ((rely_at pm w d).trans c3)) _ _ _ q i c1 c2 ?_)
            simp [hlt]
          | @send v us _ _ _ _ k =>
            obtain ⟨g₂, z', h1, h2⟩ := k (w.at d) hrd
            have hj' : (gs.setIfInBounds i ph)[0]? = some (parked g #[rcase b z] (.recv ok)) := by rw [Array.getElem?_setIfInBounds_ne (by omega)]; exact h.me
            have hp : partners (gs.setIfInBounds i ph) b false = [(0, 0)] := by
              rw [partners_one hj' fun k y hk hy => ?_, offersAt_parked_recv, if_pos rfl]
              · rfl
              · rcases getElem?_stand gs i k y hy with ⟨_, rfl⟩ | ⟨hki, hy'⟩
                · exact offersAt_ph b false
                · exact offers_other h (by omega) (by simp; omega) hy' b false
            have hmeet := crowd_send_meets (sl := sl') hc (by rw [hi0]; exact h1) hch (by omega) h.me hp
            rw [finishComm_recv, finishComm_send] at hmeet
            refine RunTo.next (hst.trans hmeet) ?_
            rw [ofEvents_none, Array.empty_append]
            have hrel : Rely pm w ((w.at d).setChan b 0 #[] false (sn + 1) (rc + 1) tm) := (rely_at pm w d).trans (rely_chan ho.nb.1.1)
            have hrelc : Rely pmc (w.at d) ((w.at d).setChan b 0 #[] false (sn + 1) (rc + 1) tm) := rely_chan ho.nb.2.1
            have hcm := comms_meet (b := b) (c := 0) (s := sn) (r := rc) (i := i) (j := 0) (f := g₂.frame.fn) (f' := g.frame.fn) (p := g₂.frame.place) (p' := g.frame.place) hb
            have hsz : ((w.at d).setChan b 0 #[] false (sn + 1) (rc + 1) tm).heap.size = w.heap.size := by simp [World.setChan, World.at]
            refine (K _ hrel).opn _ _ _ q i pmc (Conc.served g₂ undef) ((h.at d).comm ?_ (by simp) (fun j hj hja => ?_) hsz hcm) ((ho.at d).comm hsz ⟨_, _, _, by unfold World.setChan; exact heap_put hch⟩ hcm) ?_ (.inl (h2 _ hrelc).1)
            · rw [Array.getElem?_setIfInBounds_ne (by omega)]
              simp [hlt0]
            · have h1 : i ≠ j := fun e => hja (by rw [e])
              rw [Array.getElem?_setIfInBounds_ne h1, Array.getElem?_setIfInBounds_ne (by omega)]
            · simp [hlt]
          | close _ hmw k =>
            obtain ⟨g₂, n, h1, h2⟩ := k (w.at d) sn rc tm hrd hch
            have hch2 : ((w.at d).shut b sn rc tm).heap[b]? = some (.chan 0 #[] true sn rc tm) := heap_put hch
            have hwk : woken P gc g₂ ((w.at d).shut b sn rc tm) (parked g #[rcase b z] (.recv ok)) = { parked g #[rcase b z] (.recv ok) with status := .running } := by
              unfold woken
              have : (mayWake P gc && g₂.status != .blocked && g₂.status != .waiting) = true := by
                rcases h2.status with e | e <;> rw [hmw, e] <;> rfl
              rw [if_pos this]
              exact again_recv_closed hch2
            obtain ⟨c1, c2⟩ := (h.at d).closes (ho.at d) hc hch h2 (gs' := (gs.map (woken P gc g₂ ((w.at d).shut b sn rc tm))).setIfInBounds i g₂) (g' := { parked g #[rcase b z] (.recv ok) with status := .running }) (by rw [get_map_other (by omega), h.me]; simp [hwk]) (by simp) (by simp [hlt]) (fun j y hj hji hy => by
              rw [get_map_other (by omega)] at hy
              obtain ⟨z, hz, rfl⟩ := Option.map_eq_some_iff.1 hy
              rw [woken_quitsD (h.lv j z hj (by simp; omega) hz)]
              exact hz) (fn := gc.frame.fn) (pos := gc.frame.place)
            have hrel := (rely_at pm w d).trans (rely_chan (o := .chan 0 #[] true sn rc tm) (w := w.at d) ho.nb.1.1)
            exact RunTo.next (hst.trans (runT_crowd_go hc (by rw [hi0]; exact h1))) (recv_shut _ (gr := { parked g #[rcase b z] (.recv ok) with status := .running }) ⟨rfl, fun w₁ r₁ => by rw [hdy]; exact R.step w₁ (hrel.trans r₁)⟩ (K.rely hrel) _ _ _ _ i (Nat.le_refl _) c1 c2)
        · obtain ⟨x', es, k, hm, hq, hrun', hsum, _⟩ := leave_case h hi hpos (by simp; omega) hx
          have := hsum d
          first
          | (exact absurd this (by omega))
          | (refine RunTo.next (hst.trans (hrun' sl' d)) (ih (w.at d) hrd (R.rely (rely_at pm w d)) (K.rely (rely_at pm w d)) _ _ _ (upd q i k) s (by omega) ((h.at d).slip hi hpos hm hq (by simp; omega) (leave_woken hch)) ((ho.at d).slip hm his) ?_)
             rw [get_map_other his, hc]
             simp [woken_run hrun])
  intro w hr R K gs sl t q s h ho hc
  exact main _ w hr R K gs sl t q s (Nat.le_refl _) h ho hc

/-- goroutine 0 comes to the receive, the sender is on its way -/
theorem recv_open {b : Nat} {ok : Bool} {z : Value} {pm : Perm} {g gr : Goroutine} (hdy : ∀ w, stepG P true { parked g #[rcase b z] (.recv ok) with status := .running } w = stepG P true gr w) {us : List Value} {pmc : Perm} {gc : Goroutine} {wc : World} (hsnd : Snd P b us pmc gc wc) :
    ∀ (w : World), Rely pmc wc w → Recv P b ok z pm g gr w → RecvK P Post b ok z pm g w us → ∀ (gs : Array Goroutine) (sl : Option (Nat × Nat)) (t : Trace) (q : Nat → Nat) (s : Nat), Cfg P gs gr w t pm q (some s) (some s) → Opn b s w t pm pmc → gs[s]? = some gc → RunTo P Post (crowd gs w sl) t := by
  refine Snd.ind (Q := fun us pmc gc wc => ∀ (w : World), Rely pmc wc w → Recv P b ok z pm g gr w → RecvK P Post b ok z pm g w us → ∀ (gs : Array Goroutine) (sl : Option (Nat × Nat)) (t : Trace) (q : Nat → Nat) (s : Nat), Cfg P gs gr w t pm q (some s) (some s) → Opn b s w t pm pmc → gs[s]? = some gc → RunTo P Post (crowd gs w sl) t) ?_ hsnd
  intro us pmc gc wc F
  have hF : Snd P b us pmc gc wc := Snd.fold (F.mono fun _ _ _ _ x => x.1)
  have main : ∀ (M : Nat) (w : World), Rely pmc wc w → Recv P b ok z pm g gr w → RecvK P Post b ok z pm g w us → ∀ (gs : Array Goroutine) (sl : Option (Nat × Nat)) (t : Trace) (q : Nat → Nat) (s : Nat), sumTo gs.size q ≤ M → Cfg P gs gr w t pm q (some s) (some s) → Opn b s w t pm pmc → gs[s]? = some gc → RunTo P Post (crowd gs w sl) t := by
    intro M
    induction M with
    | zero | succ M ih =>
    all_goals
      intro w hr R K gs sl t q s hM h ho hc
      have s0 := ho.s0
      have hrun := hF.unfold.running
      have hlt : s < gs.size := (Array.getElem?_eq_some_iff.1 hc).1
      have hlt0 : 0 < gs.size := (Array.getElem?_eq_some_iff.1 h.me).1
      obtain ⟨i, x, d, sl', hi, hx, hst⟩ := pick h (.inl R.run) (fun s' gc' hc' hg => by cases hc'; rw [hc] at hg; cases hg; exact .inl hrun) ⟨0, gr, h.me, R.run⟩ sl
      have hrd := hr.trans (rely_at pmc w d)
      obtain ⟨sn, rc, tm, hch⟩ := (ho.at d).chan
      rcases Nat.eq_zero_or_pos i with rfl | hpos
      · rw [h.me] at hi; cases hi
        have hp : partners (gs.setIfInBounds 0 ph) b true = [] := partners_nil fun j y hy => by
          rcases getElem?_stand gs 0 j y hy with ⟨_, rfl⟩ | ⟨hj0, hy'⟩
          · exact offersAt_ph b true
          · by_cases hjs : j = s
            · subst hjs; rw [hc] at hy'; cases hy'; exact offersAt_of_not_blocked (by rw [hrun]; simp) b true
            · exact offers_other h (by omega) (by simp; omega) hy' b true
        have hw := crowd_waits (sl := sl') h.me (R.step (w.at d) (rely_at pm w d)) (by
          intro cc hcc
          simp at hcc
          subst hcc
          exact ways_recv_none hch hp)
        refine RunTo.next (hst.trans hw) ?_
        rw [ofEvents_none, Array.append_empty]
        have hcf := (h.at d).comm (gs' := gs.setIfInBounds 0 (parked g #[rcase b z] (.recv ok))) (g' := parked g #[rcase b z] (.recv ok)) (w' := w.at d) (u := #[]) (by simp [hlt0]) (by simp) (fun j hj hja => by rw [Array.getElem?_setIfInBounds_ne (by omega)]) rfl comms_nil
        rw [Array.append_empty] at hcf
        exact recv_parked hdy hF (w.at d) hrd (R.rely (rely_at pm w d)) (K.rely (rely_at pm w d)) _ _ _ q s hcf (ho.at d) (by rw [Array.getElem?_setIfInBounds_ne (by omega)]; exact hc)
      · by_cases his : i = s
        · subst his
          rw [hc] at hi; cases hi
          have hi0 : (i == 0) = false := by simp; omega
          cases F with
          | step _ k =>
            obtain ⟨g', w', es, pm', h1, h2, h3, h4, h5⟩ := k (w.at d) hrd
            obtain ⟨c1, c2, c3⟩ := (h.at d).child (ho.at d) hc h2 h3 (woken_run R.run)
            refine RunTo.next (hst.trans (runT_crowd_go hc (by rw [hi0]; exact h1))) (h5 w' (Rely.refl _ _) (R.rely ((rely_at pm w d).trans c3)) (K.rely ((rely_at pm w d).trans c3)) _ _ _ q i c1 c2 ?_)
            simp [hlt]
          | @send v us _ _ _ _ k =>
            obtain ⟨g₂, z', h1, h2⟩ := k (w.at d) hrd
            have hw := crowd_waits (sl := sl') hc (by rw [hi0]; exact h1) (by
              intro cc hcc
              simp at hcc
              subst hcc
              exact ways_send_none hch (by simp) (nobody_else h (by rw [R.run]; simp) b false))
            refine RunTo.next (hst.trans hw) ?_
            rw [ofEvents_none, Array.append_empty]
            refine recv_wait _ (R.rely (rely_at pm w d)) (K.rely (rely_at pm w d)) _ _ _ q i pmc g₂ z' (Nat.le_refl _) ?_ (ho.at d) (by simp [hlt]) fun w₂ r => (h2 w₂ r).1
            have := (h.at d).comm (gs' := gs.setIfInBounds i (parked g₂ #[scase b v z'] .send)) (g' := gr) (w' := w.at d) (u := #[]) (by rw [Array.getElem?_setIfInBounds_ne (by omega)]; exact h.me) (by simp) (fun j hj hja => by
              have : i ≠ j := fun e => hja (by rw [e])
              rw [Array.getElem?_setIfInBounds_ne this]) rfl comms_nil
            rwa [Array.append_empty] at this
          | close _ hmw k =>
            obtain ⟨g₂, n, h1, h2⟩ := k (w.at d) sn rc tm hrd hch
            obtain ⟨c1, c2⟩ := (h.at d).closes (ho.at d) hc hch h2 (gs' := (gs.map (woken P gc g₂ ((w.at d).shut b sn rc tm))).setIfInBounds i g₂) (g' := gr) (by rw [get_map_other (by omega), h.me]; simp [woken_run R.run]) (by simp) (by simp [hlt]) (fun j y hj hji hy => by
              rw [get_map_other (by omega)] at hy
              obtain ⟨z, hz, rfl⟩ := Option.map_eq_some_iff.1 hy
              rw [woken_quitsD (h.lv j z hj (by simp; omega) hz)]
              exact hz) (fn := gc.frame.fn) (pos := gc.frame.place)
            have hrel := (rely_at pm w d).trans (rely_chan (o := .chan 0 #[] true sn rc tm) (w := w.at d) ho.nb.1.1)
            exact RunTo.next (hst.trans (runT_crowd_go hc (by rw [hi0]; exact h1))) (recv_shut _ (R.rely hrel) (K.rely hrel) _ _ _ _ i (Nat.le_refl _) c1 c2)
        · obtain ⟨x', es, k, hm, hq, hrun', hsum, _⟩ := leave_case h hi hpos (by simp; omega) hx
          have := hsum d
          first
          | (exact absurd this (by omega))
          | (refine RunTo.next (hst.trans (hrun' sl' d)) (ih (w.at d) hrd (R.rely (rely_at pm w d)) (K.rely (rely_at pm w d)) _ _ _ (upd q i k) s (by omega) ((h.at d).slip hi hpos hm hq (by simp; omega) (woken_run R.run)) ((ho.at d).slip hm his) ?_)
             rw [get_map_other his, hc]
             simp [woken_run hrun])
  intro w hr R K gs sl t q s h ho hc
  exact main _ w hr R K gs sl t q s (Nat.le_refl _) h ho hc

/-- **goroutine 0 receives** -/
theorem go0_recv {b : Nat} {ok : Bool} {z : Value} {us : List Value} {pm : Perm} {g : Goroutine} {w : World} (R : Recv P b ok z pm g g w) (K : RecvK P Post b ok z pm g w us) : Go0 P Post (some (b, us)) pm g w := by
  have hdy : ∀ w, stepG P true { parked g #[rcase b z] (.recv ok) with status := .running } w = stepG P true g w := fun w => stepG_same rfl rfl rfl w
  refine ⟨fun gs sl t q s pmc gc h ho hc hch => ?_, fun hus gs sl t q s h hsh => ?_⟩
  · rcases hch with hch | ⟨v, us', g₂, z', rfl, rfl, hK⟩
    · exact recv_open hdy hch w (Rely.refl _ _) R K gs sl t q s h ho hc
    · exact recv_wait _ R K gs sl t q s pmc g₂ z' (Nat.le_refl _) h ho hc hK
  · subst hus
    exact recv_shut _ R K gs sl t q s (Nat.le_refl _) h hsh
end
end Go.Det
namespace Go.Det
open Go.Conc

theorem del_runs {ρ : Ren} {h h' : Heap} {w w₁ : World} {pm : Perm} {n c : Nat} (S : Sim ρ h w pm) (r : Rely pm w w₁) (e : hdel h c = some h') : Runs ρ h w pm n ρ h' w₁ pm n := by
  have S1 := S.rely r
  have get : ∀ i o, h'.get i = some o → i ≠ c ∧ h.get i = some o := fun i o hi => by
    rw [hdel_get e] at hi
    split at hi
    · cases hi
    · exact ⟨by assumption, hi⟩
  refine ⟨fun _ _ e => e, fun _ _ => rfl, ⟨S1.glob, fun i m o a b => S1.at' i m o a (get i o b).2, fun i j m m' o o' a b x y z => S1.inj i j m m' o o' a b (get i o x).2 (get j o' y).2 z⟩, r.size, fun _ h => h, fun b => .inl, fun b => .inl, r.world, fun b _ hp _ => r.same b hp, fun b _ hp _ => r.same b hp, fun i m a b => by omega, fun i x _ => ?_, Nat.le_refl _, fun i m o o' _ x y z u => ?_, fun _ _ a _ => a⟩
  · rw [hdel_get e, x]; split <;> rfl
  · have := (get i o' u).2
    rw [y] at this; cases this; exact z

theorem recv0_ok {P : Program} {Post : Value → World → Prop} {T : Tbl} (hT : T.main = true) : RecvOk T (ctx0 P Post) where
  main := hT.symm
  send h := by cases h
  recv := by
    intro _ ok z c h n v h' n' e σ ρ pm w b a k cs ops i N rest o A hN ho hw hk hs hK
    obtain ⟨m0, hm0, hz0, _⟩ := hs w (Rely.refl _ _)
    have stg : ∀ us, h.get c = some (.pipe us) → ∃ b0, σ = some (b0, us) ∧ m0.b = b0 ∧ ∀ c' m' vs, ρ c' = some m' → h.get c' = some (.pipe vs) → c' = c := by
      intro us hg
      match σ, A.stage with
      | none, s => exact absurd hg (s c m0 us hm0)
      | some (b0, us0), ⟨c1, m1, q1, q2, q3, q4⟩ =>
        obtain rfl := q4 c m0 us hm0 hg
        rw [hg] at q3; cases q3
        rw [hm0] at q1; cases q1
        exact ⟨b0, rfl, q2, q4⟩
    have rc : ∀ b0, m0.b = b0 → Recv P b0 ok z pm (G (b.at a (.inRegion ops (i :: rest) :: k)) cs) (G (b.at a (.inRegion ops (i :: rest) :: k)) cs) w := by
      rintro b0 rfl
      refine ⟨rfl, fun w₁ r => ?_⟩
      obtain ⟨m1, hm1, _, hrun⟩ := hs w₁ r
      rw [hm0] at hm1; cases hm1
      obtain ⟨r1, r2⟩ := run_of hrun
      rw [stepG_comm (cases := #[rcase m0.b z]) (blocking := true) (shape := .recv ok) (w' := w₁) ho hw hk (by rw [r1]; rfl)]
      unfold listed
      rw [r2, seen_none]
    have rd : ∀ (v : Value) (f : Bool), recvd ok v f = bif ok then .tuple #[v, .bool f] else v := fun v f => by cases ok <;> rfl
    have rr : ∀ (v : Value) (f : Bool), VRel ρ v v → VRel ρ (bif ok then .tuple #[v, .bool f] else v) (recvd ok v f) := by
      intro v f hv
      rw [rd]
      cases ok with
      | false => exact hv
      | true => exact .tuple rfl (VRels.cons hv (VRels.cons (.bool f) .nil)).get
    unfold recvA at e
    split at e
    · rename_i x us hg
      split at e
      · rename_i h1 hfree hput
        cases e
        obtain ⟨b0, rfl, hb0, huniq⟩ := stg _ hg
        refine go0_recv (rc b0 hb0) fun w₂ r => ?_
        rw [served_G, ho]
        refine hK (some (b0, us)) ρ pm w₂ _ (pipe_runs A.sim r hg hput) ⟨c, m0, hm0, hb0, by rw [hput_get hput, if_pos rfl], fun c1 m1 vs y1 y2 => ?_⟩ (rr x true (afree_rel hfree))
        rw [hput_get hput] at y2
        split at y2
        · assumption
        · exact huniq c1 m1 vs y1 y2
      · cases e
    · rename_i hg
      split at e
      · rename_i h1 hdl
        cases e
        obtain ⟨b0, rfl, hb0, huniq⟩ := stg _ hg
        refine go0_recv (rc b0 hb0) fun w₂ r => ?_
        rw [served_G, ho]
        refine hK none ρ pm w₂ _ (del_runs A.sim r hdl) (fun c1 m1 vs y1 y2 => ?_) (rr z false hz0)
        rw [hdel_get hdl] at y2
        split at y2
        · cases y2
        · rename_i hne; exact hne (huniq c1 m1 vs y1 y2)
      · cases e
    · cases e

/-! ### the end -/
/-- goroutine 0 stands at the step that ends the run -/
theorem go0_end {P : Program} {Post : Value → World → Prop} {pm : Perm} {g : Goroutine} {w : World} (hs : g.status = .running) (H : ∀ w₁, Rely pm w w₁ → ∃ v es, stepG P true g w₁ = .ended (.done v) w₁ es ∧ (∀ e ∈ es, EvIn pm e) ∧ Post v w₁) : Go0 P Post none pm g w := by
  have main : ∀ (M : Nat) {w : World} (H : ∀ w₁, Rely pm w w₁ → ∃ v es, stepG P true g w₁ = .ended (.done v) w₁ es ∧ (∀ e ∈ es, EvIn pm e) ∧ Post v w₁) (gs : Array Goroutine) (sl : Option (Nat × Nat)) (t : Trace) (q : Nat → Nat), Go.ConcN.sumTo gs.size q ≤ M → Cfg P gs g w t pm q none none → RunTo P Post (crowd gs w sl) t := by
    intro M
    induction M with
    | zero | succ M ih =>
    all_goals
      intro w H gs sl t q hM h
      obtain ⟨i, x, d, sl', hi, hx, hst⟩ := pick h (.inl hs) (fun s gc hc => by cases hc) ⟨0, g, h.me, hs⟩ sl
      rcases Nat.eq_zero_or_pos i with rfl | hpos
      · rw [h.me] at hi; cases hi
        obtain ⟨v, es, h1, h2, h3⟩ := H (w.at d) (rely_at pm w d)
        have hrun := runT_many_ended (P := P) (sl := sl') (i := 0) h.me (show stepG P (0 == 0) g (w.at d) = _ from h1)
        have hd := h.at d
        have tr' := hd.tr.step (fn := g.frame.fn) (pos := g.frame.place) hd.kn (StepOk.refl _ _) hd.pmo h2 (.inl rfl)
        have hstep := hst.trans hrun
        refine ⟨0, crowd gs w sl, .done v, w.at d, t ++ MemOp.ofEvents 0 g.frame.fn g.frame.place es, ?_, rfl, ?_, v, rfl, h3, tr'.clean, tr'.handed, ⟨fun x hx => ?_, rfl⟩, fun j x hx hj => ?_⟩
        · simp only [runNT, hstep]
        · unfold step; rw [hstep]
        · obtain ⟨j, hj⟩ := List.mem_iff_getElem?.1 hx
          rw [List.getElem?_drop] at hj
          exact ⟨_, (h.lv (1 + j) x (by omega) (by simp) (by simpa [crowd] using hj)).leaves⟩
        · have hq := h.lv j x (by omega) (by simp) hx
          refine ⟨q j, ?_⟩
          have e : (t ++ MemOp.ofEvents 0 g.frame.fn g.frame.place es).deaf j (t ++ MemOp.ofEvents 0 g.frame.fn g.frame.place es).size = Deaf t j := Deaf_step (t := t) (g := 0) h2 j
          rw [e]
          exact hq.hears _
      · obtain ⟨x', es, k, hm, hq, hrun, hsum, _⟩ := leave_case h hi hpos (by simp) hx
        have := hsum d
        first
        | (exact absurd this (by omega))
        | exact RunTo.next (hst.trans (hrun sl' d)) (ih (fun w₁ r₁ => H w₁ ((rely_at pm w d).trans r₁)) _ _ _ (Go.ConcN.upd q i k) (by omega) ((h.at d).slip hi hpos hm hq (by simp) (woken_run hs)))
  exact fun gs sl t q h => main _ H gs sl t q (Nat.le_refl _) h

/-- a machine of goroutine 0 alone, at its beginning -/
theorem go0_begin {P : Program} {Post : Value → World → Prop} {pm : Perm} {g : Goroutine} {w : World} (h : Go0 P Post none pm g w) (hp : PmOk pm w) : RunTo P Post (solo g w) #[] := by
  rw [solo_eq_crowd]
  have nt : ∀ k a, touchAt #[] k = some a → False := fun k a ha => by simp [touchAt, Trace.act?] at ha
  refine h #[g] none #[] (fun _ => 0) ⟨rfl, hp, ⟨fun k a c ha => (nt k a ha).elim, fun k a c ha => (nt k a ha).elim⟩, ⟨fun said => by rintro ⟨i, j, _, ⟨a, b, ha, _⟩, _⟩; simp [Trace.act?] at ha, fun op hop => by simp at hop, fun i op ho => by simp at ho, rfl⟩, fun i x hi _ hx => ?_, fun _ _ => rfl⟩
  have : i < 1 := by simpa using (Array.getElem?_eq_some_iff.1 hx).1
  omega
end Go.Det
namespace Go.Det
open Go.Conc

theorem spawn_comms {B s : Nat} {f f' : FuncId} {p p' : String} : Comms #[{ g := 0, fn := f, pos := p, act := .go s }, { g := s, fn := f', pos := p', act := .start }] B := by
  refine ⟨fun op hop => ?_, fun op hop => ?_, fun op hop => ?_⟩ <;> (simp at hop; rcases hop with rfl | rfl) <;> first | rfl | trivial | exact ⟨by simp, by simp⟩
theorem spawn_knows {t : Trace} {s k : Nat} {f f' : FuncId} {p p' : String} (h : Knows t 0 k) (h0 : Deaf t 0 = 0) (hs : Deaf t s = 0) : Knows (t ++ #[{ g := 0, fn := f, pos := p, act := .go s }, { g := s, fn := f', pos := p', act := .start }]) s k := by
  have e1 : (t ++ #[({ g := 0, fn := f, pos := p, act := .go s } : MemOp), { g := s, fn := f', pos := p', act := .start }])[t.size]? = some { g := 0, fn := f, pos := p, act := .go s } := by
    rw [Array.getElem?_append_right (Nat.le_refl _)]; simp
  have e2 : (t ++ #[({ g := 0, fn := f, pos := p, act := .go s } : MemOp), { g := s, fn := f', pos := p', act := .start }])[t.size + 1]? = some { g := s, fn := f', pos := p', act := .start } := by
    rw [Array.getElem?_append_right (by omega)]; simp
  have hb := h.hb_new (Nat.le_refl _) e1 rfl
  have d1 : (t ++ #[({ g := 0, fn := f, pos := p, act := .go s } : MemOp), { g := s, fn := f', pos := p', act := .start }]).heard t.size := ⟨0, by simp [Trace.g?, e1], by rw [deaf_old (Nat.le_refl _)]; exact h0⟩
  have d2 : (t ++ #[({ g := 0, fn := f, pos := p, act := .go s } : MemOp), { g := s, fn := f', pos := p', act := .start }]).heard (t.size + 1) := by
    refine ⟨s, by simp [Trace.g?, e2], ?_⟩
    rw [deaf_succ e1, deaf_old (Nat.le_refl _)]
    exact hs
  exact ⟨t.size + 1, _, e2, rfl, .inr (hb.trans (.single (.inr ⟨.spawn (child := s) (act?_of e1) (act?_of e2) (by simp [Trace.g?, e2]), d1, d2⟩)))⟩

/-- **goroutine 0 starts a sender** -/
theorem go0_spawn {P : Program} {Post : Value → World → Prop} {pm pm' pmc : Perm} {b : Nat} {us : List Value} {g g' child : Goroutine} {w : World} (hs : g.status = .running) (H : ∀ w₁, Rely pm w w₁ → stepG P true g w₁ = .spawn g' child w₁ #[])
    (hch : ∃ sn rc tm, w.heap[b]? = some (.chan 0 #[] false sn rc tm)) (hb : pm.rd b ∧ pm.wr b) (h1 : ∀ c, pm'.rd c → pm.rd c ∧ c ≠ b) (h2 : ∀ c, pm'.wr c → pm.wr c ∧ c ≠ b ∧ ¬ pmc.rd c) (h3 : ∀ c, pmc.rd c → pm.rd c ∧ c ≠ b) (h4 : ∀ c, ¬ pmc.wr c)
    (hsnd : ∀ w₁, Rely pm w w₁ → Snd P b us pmc child w₁) (hK : ∀ w₁, Rely pm w w₁ → Go0 P Post (some (b, us)) pm' g' w₁) : Go0 P Post none pm g w := by
  have main : ∀ (M : Nat) {w₁ : World} (r : Rely pm w w₁) (gs : Array Goroutine) (sl : Option (Nat × Nat)) (t : Trace) (q : Nat → Nat), Go.ConcN.sumTo gs.size q ≤ M → Cfg P gs g w₁ t pm q none none → RunTo P Post (crowd gs w₁ sl) t := by
    intro M
    induction M with
    | zero | succ M ih =>
    all_goals
      intro w₁ r gs sl t q hM h
      obtain ⟨i, x, d, sl', hi, hx, hst⟩ := pick h (.inl hs) (fun s gc hc => by cases hc) ⟨0, g, h.me, hs⟩ sl
      have rd := r.trans (rely_at pm w₁ d)
      rcases Nat.eq_zero_or_pos i with rfl | hpos
      · rw [h.me] at hi; cases hi
        have hlt : 0 < gs.size := (Array.getElem?_eq_some_iff.1 h.me).1
        have hrun := runT_crowd_spawn (sl := sl') h.me (show stepG P (0 == 0) g (w₁.at d) = _ from H (w₁.at d) rd)
        refine RunTo.next (hst.trans hrun) ?_
        have et : t ++ (((MemOp.ofEvents 0 g.frame.fn g.frame.place #[]).push { g := 0, fn := g.frame.fn, pos := g.frame.place, act := .go gs.size }).push { g := gs.size, fn := child.frame.fn, pos := g.frame.place, act := .start }) =
            t ++ #[{ g := 0, fn := g.frame.fn, pos := g.frame.place, act := .go gs.size }, { g := gs.size, fn := child.frame.fn, pos := g.frame.place, act := .start }] := by
          rw [ofEvents_none]; rfl
        rw [et]
        have hcm := spawn_comms (B := w₁.heap.size) (s := gs.size) (f := g.frame.fn) (f' := child.frame.fn) (p := g.frame.place) (p' := g.frame.place)
        have hd := h.at d
        have kn := hd.kn.app hcm.touch
        have dz : Deaf t gs.size = 0 := h.above gs.size (Nat.le_refl _)
        have tr' := hd.tr.mute hcm.touch hcm.low (Nat.le_refl _) (by rw [hcm.deaf]; exact h.tr.hears)
        have chan : ∃ sn rc tm, (w₁.at d).heap[b]? = some (.chan 0 #[] false sn rc tm) := by rw [rd.same b hb.1]; exact hch
        have tk : ∀ k a, touchAt (t ++ #[{ g := 0, fn := g.frame.fn, pos := g.frame.place, act := .go gs.size }, { g := gs.size, fn := child.frame.fn, pos := g.frame.place, act := .start }]) k = some a → touchAt t k = some a := by
          intro k a ha
          obtain ⟨y, hy, hya⟩ := touch_of ha
          rcases getElem?_append_cases hy with ⟨_, hy'⟩ | ⟨_, hyu⟩
          · rw [touchAt_of hy']; exact hya
          · rw [hcm.touch y hyu] at hya; cases hya
        refine (hK (w₁.at d) rd).opn _ sl' _ q gs.size pmc child ⟨?_, ⟨fun c hc => h.pmo.rd c (h1 c hc).1, fun c hc => h.pmo.wr c (h2 c hc).1⟩, ⟨fun k a c y1 y2 y3 => kn.w k a c y1 y2 (h2 c y3).1, fun k a c y1 y2 y3 y4 => kn.r k a c y1 y2 (h1 c y3).1 y4⟩, ⟨tr'.clean, tr'.seen, fun i op y1 y2 y3 => .inl ((tr'.over i op y1 y2 y3).resolve_right (by simp)), tr'.hears⟩, fun i y hi0 hia hy => ?_, fun j hj => ?_⟩
          ⟨hlt, chan, ⟨fun k a c _ _ y3 => absurd y3 (h4 c), fun k a c y1 y2 y3 y4 => spawn_knows (h.kn.r k a c (tk k a y1) y2 (h3 c y3).1 y4) h.tr.hears dz⟩, ⟨fun c hc => h.pmo.rd c (h3 c hc).1, fun c hc => absurd hc (h4 c)⟩, ⟨fun c y1 y2 => (h2 c y1).2.2 y2, fun c y1 => absurd y1 (h4 c)⟩, ⟨⟨fun y => (h1 b y).2 rfl, fun y => (h2 b y).2.1 rfl⟩, fun y => (h3 b y).2 rfl, h4 b⟩, fun k a y1 y2 => spawn_knows (h.kn.w k a b (tk k a y1) y2 hb.2) h.tr.hears dz, by rw [hcm.deaf]; exact dz⟩ ?_ (.inl (hsnd _ rd))
        · rw [Array.getElem?_push_lt (by simpa using hlt)]
          simp
        · have hne : i ≠ gs.size := fun e => hia (by rw [e])
          have hil : i < gs.size := by
            have := (Array.getElem?_eq_some_iff.1 hy).1
            simp at this
            omega
          rw [Array.getElem?_push_lt (by simpa using hil)] at hy
          rw [Array.getElem_setIfInBounds_ne (by simpa using hil) (by omega)] at hy
          rw [hcm.deaf]
          exact h.lv i y hi0 (by simp) (by rw [Array.getElem?_eq_getElem hil]; exact hy)
        · rw [hcm.deaf]
          exact h.above j (by simp at hj; omega)
        · rw [show gs.size = (gs.setIfInBounds 0 g').size by simp]
          exact Array.getElem?_push_size
      · obtain ⟨x', es, k, hm, hq, hrun, hsum, _⟩ := leave_case h hi hpos (by simp) hx
        have := hsum d
        first
        | (exact absurd this (by omega))
        | exact RunTo.next (hst.trans (hrun sl' d)) (ih rd _ _ _ (Go.ConcN.upd q i k) (by omega) ((h.at d).slip hi hpos hm hq (by simp) (woken_run hs)))
  exact fun gs sl t q h => main _ (Rely.refl _ _) gs sl t q (Nat.le_refl _) h
end Go.Det
