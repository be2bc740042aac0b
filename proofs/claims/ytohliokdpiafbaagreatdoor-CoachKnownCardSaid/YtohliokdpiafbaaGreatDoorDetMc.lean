/- Regions whose order the model draws: the evaluator speaks for every order. Conditions: none beyond what each theorem states. -/
import Derived.Test.YtohliokdpiafbaaGreatDoorDetMb
import Derived.Orders
import Derived.Conc.CompanyDraw
set_option linter.unusedVariables false
set_option linter.unusedSimpArgs false
set_option linter.unusedSectionVars false
set_option linter.constructorNameAsVariable false
namespace Go.Det

/-! ### an operation reads its operands alone -/
section
variable {tm tm' : Tmps}
theorem evs_congr : ∀ {l : List Operand}, (∀ x ∈ l, ev tm x = ev tm' x) → evs tm l = evs tm' l
  | [], _ => rfl
  | x :: r, h => by
    unfold evs
    rw [h x (by simp), evs_congr fun y hy => h y (by simp [hy])]
theorem evParts_congr : ∀ {l : List (Nat × Operand)}, (∀ x ∈ l.map (·.2), ev tm x = ev tm' x) → evParts tm l = evParts tm' l
  | [], _ => rfl
  | (i, x) :: r, h => by
    unfold evParts
    rw [h x (by simp), evParts_congr fun y hy => h y (by simp at hy ⊢; exact .inr hy)]
theorem bound_congr {x : Option Operand} {d y : Nat} (h : ∀ z, x = some z → ev tm z = ev tm' z) : bound tm x d y = bound tm' x d y := by
  cases x with
  | none => rfl
  | some z => unfold bound; dsimp only; rw [h z rfl]
theorem bounds_congr {lo hi mx : Option Operand} {l c : Nat} (h1 : ∀ z, lo = some z → ev tm z = ev tm' z) (h2 : ∀ z, hi = some z → ev tm z = ev tm' z) (h3 : ∀ z, mx = some z → ev tm z = ev tm' z) : bounds tm lo hi mx l c = bounds tm' lo hi mx l c := by
  unfold bounds
  rw [bound_congr h3]
  have e2 : ∀ m, bound tm hi l m = bound tm' hi l m := fun m => bound_congr h2
  have e1 : ∀ m, bound tm lo 0 m = bound tm' lo 0 m := fun m => bound_congr h1
  simp only [e1, e2]
theorem opC_congr {P : Program} {T : Tbl} {op : Op} {f : Tmps → Heap → Nat → Option AR} (ho : opC P T op = .mk f) (hx : ∀ x ∈ op.operands.toList, ev tm x = ev tm' x) (h : Heap) (n : Nat) : f tm h n = f tm' h n := by
  unfold opC at ho
  split at ho
  case h_27 c =>
    split at ho
    · rename_i rc name hc
      cases ho
      dsimp only
      have e1 : evs tm c.args.toList = evs tm' c.args.toList := evs_congr fun x hm => hx x (by simp [Op.operands, Go.Call.operands, hc] at hm ⊢; exact .inr hm)
      have e2 : ev tm rc = ev tm' rc := hx rc (by simp [Op.operands, Go.Call.operands, hc])
      rw [e1, e2]
    · cases ho
      dsimp only
      unfold oCall
      have e1 : evs tm c.args.toList = evs tm' c.args.toList := evs_congr fun x hm => hx x (by simp [Op.operands, Go.Call.operands] at hm ⊢; split <;> simp [hm])
      rw [e1]
      split
      · split
        · rename_i f0 hc
          have e2 : ev tm f0 = ev tm' f0 := hx f0 (by simp [Op.operands, Go.Call.operands, hc])
          rw [e2]
        · rfl
        · rfl
      · rfl
  all_goals cases ho
  all_goals dsimp only
  all_goals try (first | rfl | (rw [hx _ (by simp [Op.operands])]; done) | (rw [hx _ (by simp [Op.operands]), hx _ (by simp [Op.operands])]; done) | (simp only [hx _ (by simp [Op.operands])]; done))
  · rename_i c a b
    unfold oPick
    rw [hx c (by simp [Op.operands]), hx a (by simp [Op.operands]), hx b (by simp [Op.operands])]
  · rename_i t ps
    unfold oBuild
    rw [evParts_congr fun x hm => hx x (by simpa [Op.operands] using hm)]
  · rename_i t l ps
    unfold oBuildSlice
    rw [evParts_congr fun x hm => hx x (by simpa [Op.operands] using hm)]
  · rename_i g a b
    rw [evs_congr (l := a.toList) fun x hm => hx x (by simp [Op.operands] at hm ⊢; exact .inl hm), evs_congr (l := b.toList) fun x hm => hx x (by simp [Op.operands] at hm ⊢; exact .inr hm)]
  · rename_i t x lo hi mx
    have e : ∀ l c, bounds tm lo hi mx l c = bounds tm' lo hi mx l c := fun l c => bounds_congr (fun z hz => hx z (by simp [Op.operands, hz])) (fun z hz => hx z (by simp [Op.operands, hz])) (fun z hz => hx z (by simp [Op.operands, hz]))
    have e' : ∀ l c, bounds tm lo hi none l c = bounds tm' lo hi none l c := fun l c => bounds_congr (fun z hz => hx z (by simp [Op.operands, hz])) (fun z hz => hx z (by simp [Op.operands, hz])) (fun z hz => by cases hz)
    unfold oSlice
    rw [hx x (by simp [Op.operands])]
    simp only [e, e']
  · rename_i t m k v
    rw [hx m (by simp [Op.operands]), hx k (by simp [Op.operands]), hx v (by simp [Op.operands])]
end

/-! ### what kind of operation it is -/
section
variable {P : Program} {T : Tbl} {op : Op} {f : Tmps → Heap → Nat → Option AR}
theorem cls_p (hc : cls T op = .p) (ho : opC P T op = .mk f) : ∃ g : Tmps → Option Value, ∀ tm h n, f tm h n = valA h n (g tm) := by
  unfold cls at hc
  unfold opC at ho
  split at ho
  all_goals first
    | (cases ho; dsimp only at hc; cases hc; done)
    | (cases ho; exact ⟨fun _ => none, fun tm h n => rfl⟩)
    | (cases ho; exact ⟨_, fun tm h n => rfl⟩)
    | skip
  · -- conversions
    rename_i s d x
    cases ho
    dsimp only at hc
    refine ⟨fun tm => oConv T s d .leaf (ev tm x), fun tm h n => ?_⟩
    dsimp only
    congr 1
    unfold oConv
    split
    · split at hc <;> first | (cases hc; done) | (rename_i hk; rw [hk])
    · rfl
  · -- calls
    rename_i c
    dsimp only at hc
    split at ho
    · rename_i hi; rw [hi] at hc; cases hc
    · cases ho
      split at hc
      all_goals first | (cases hc; done) | skip
      all_goals
        rename_i hb
        refine ⟨fun tm => match oCall T c tm .leaf 0 with | some (.val v _ _) => some v | _ => none, fun tm h n => ?_⟩
        dsimp only
        unfold oCall
        cases evs tm c.args.toList with
        | none => rfl
        | some as =>
          dsimp only
          rw [hb]
          dsimp only
          unfold oBuiltin
          dsimp only
          split <;> first | rfl | (generalize oLen T _ _ = y; cases y <;> rfl) | (generalize maxA _ _ = y; cases y <;> rfl) | (generalize minA _ _ = y; cases y <;> rfl) | (generalize oSliceData _ = y; cases y <;> rfl)
theorem cls_l (hc : cls T op = .l) (ho : opC P T op = .mk f) : ∃ g : Tmps → Heap → Option Value, ∀ tm h n, f tm h n = valA h n (g tm h) := by
  unfold cls at hc
  unfold opC at ho
  split at ho
  all_goals first
    | (cases ho; dsimp only at hc; cases hc; done)
    | (cases ho; exact ⟨fun _ _ => none, fun tm h n => rfl⟩)
    | (cases ho; exact ⟨fun tm h => _, fun tm h n => rfl⟩)
    | skip
  · rename_i c
    dsimp only at hc
    split at hc <;> cases hc
/-- what a new block is, and what points to it -/
theorem cls_a (hc : cls T op = .a) (ho : opC P T op = .mk f) (tm : Tmps) : (∀ h n, f tm h n = none) ∨ ∃ (o : AObj) (p : Nat → Value), (∀ vs, o ≠ .pipe vs) ∧ ∀ h n, f tm h n = newA h n o (p n) := by
  unfold cls at hc
  unfold opC at ho
  split at ho
  all_goals first
    | (cases ho; dsimp only at hc; cases hc; done)
    | (cases ho; exact .inl fun h n => rfl)
    | (cases ho; exact .inr ⟨.map [], fun n => .map (some n), (fun vs h => by cases h), fun h n => rfl⟩)
    | (cases ho; skip)
    | skip
  · rename_i t
    cases hz : zeroT T t with
    | none => exact .inl fun h n => by simp only [allocA, hz]
    | some z => exact .inr ⟨.cells t z none false, fun n => .pointer (some ⟨n, 0, none⟩), (fun vs h => by cases h), fun h n => by simp only [allocA, hz]⟩
  · rename_i t x
    cases hz : ev tm x with
    | none => exact .inl fun h n => by simp only [boxA, hz]
    | some v => exact .inr ⟨.cells t (vcells v) none false, fun n => .pointer (some ⟨n, 0, none⟩), (fun vs h => by cases h), fun h n => by simp only [boxA, hz]⟩
  · rename_i t l ps
    cases h1 : elemT T t with
    | none => exact .inl fun h n => by simp only [oBuildSlice, h1]
    | some y =>
    obtain ⟨e, sz, by'⟩ := y
    cases h2 : zeroT T e with
    | none => exact .inl fun h n => by simp only [oBuildSlice, h1, h2]
    | some z =>
    cases h3 : evParts tm ps.toList with
    | none => exact .inl fun h n => by simp only [oBuildSlice, h1, h2, h3]
    | some qs =>
    cases h4 : Nat.ble (Nat.mul l sz) 100000 with
    | false => exact .inl fun h n => by simp only [oBuildSlice, h1, h2, h3, h4]
    | true =>
    cases h5 : fillL (fun i => some (Nat.mul i sz, sz)) (repL z l) qs with
    | none => exact .inl fun h n => by simp only [oBuildSlice, h1, h2, h3, h4, h5]
    | some cs => exact .inr ⟨.cells e cs none false, fun n => .slice (some ⟨n, 0, none⟩) l l, (fun vs h => by cases h), fun h n => by simp only [oBuildSlice, h1, h2, h3, h4, h5]⟩
  · dsimp only at hc
    split at hc <;> cases hc
  · rename_i t l c
    cases h1 : ev tm l with
    | none => exact .inl fun h n => by simp only [oMakeSlice, h1]
    | some vl =>
    cases h2 : ev tm c with
    | none => exact .inl fun h n => by simp only [oMakeSlice, h1, h2]
    | some vc =>
    cases h3 : elemT T t with
    | none => exact .inl fun h n => by simp only [oMakeSlice, h1, h2, h3]
    | some y =>
    obtain ⟨e, sz, by'⟩ := y
    cases h4 : natOf vl with
    | none => exact .inl fun h n => by simp only [oMakeSlice, h1, h2, h3, h4]
    | some nl =>
    cases h5 : natOf vc with
    | none => exact .inl fun h n => by simp only [oMakeSlice, h1, h2, h3, h4, h5]
    | some nc =>
    cases h6 : (Nat.ble nl nc && (Nat.ble nc 100000 && Nat.ble by' 1000)) with
    | false => exact .inl fun h n => by simp only [oMakeSlice, h1, h2, h3, h4, h5, h6]
    | true =>
    cases h7 : zeroT T e with
    | none => exact .inl fun h n => by simp only [oMakeSlice, h1, h2, h3, h4, h5, h6, h7]
    | some z => exact .inr ⟨.cells e (repL z nc) none false, fun n => .slice (some ⟨n, 0, none⟩) nl nc, (fun vs h => by cases h), fun h n => by simp only [oMakeSlice, h1, h2, h3, h4, h5, h6, h7]⟩
  · dsimp only at hc
    split at hc <;> cases hc
end

/-! ### numbers in tries -/
theorem put_leaf {α : Type} : ∀ (f : Nat) (t : Tr α) (n : Nat) (x : Option α) (t' : Tr α), Tr.put f t n x = some t' → ∃ t'', Tr.put f .leaf n x = some t''
  | 0, t, n, x, t', e => by cases e
  | f + 1, t, n, x, t', e => by
    cases n with
    | zero => exact ⟨_, rfl⟩
    | succ m =>
      have key : ∃ q, Tr.put f .leaf (Nat.div m 4) x = some q := by
        cases t with
        | leaf =>
          simp only [Tr.put] at e
          split at e
          · cases e
          · rename_i q hq; exact ⟨q, hq⟩
        | node v a b c d =>
          simp only [Tr.put] at e
          split at e <;> (split at e <;> first | (cases e; done) | (rename_i hq; exact put_leaf f _ _ _ _ hq))
      obtain ⟨q, hq⟩ := key
      simp only [Tr.put, hq]
      split <;> exact ⟨_, rfl⟩
theorem hput_leaf {h h' : Heap} {n : Nat} {o : AObj} (e : hput h n o = some h') : ∃ h'', hput .leaf n o = some h'' := put_leaf _ _ _ _ _ e

/-! ### equality as far as it is told -/
theorem bytes_eq {a b : ByteArray} (h : (a == b) = true) : a = b := by
  obtain ⟨a⟩ := a
  obtain ⟨b⟩ := b
  have : (a == b) = true := h
  rw [eq_of_beq this]
theorem veq1_eq {u v : Value} (h : veq1 u v = true) : u = v := by
  unfold veq1 at h
  split at h
  · rw [eq_of_beq h]
  · rw [Bool.and_eq_true, eqI_eq] at h; rw [(kindEq_eq _ _).1 h.1, eq_of_beq h.2]
  · rw [bytes_eq h]
  · rfl
  · rw [eq_of_beq h]
  · rw [Bool.and_eq_true] at h; rw [Nat.eq_of_beq_eq_true h.1, Nat.eq_of_beq_eq_true h.2]
  · rw [Bool.and_eq_true, Bool.and_eq_true] at h; rw [eq_of_beq h.1, Nat.eq_of_beq_eq_true h.2.1, Nat.eq_of_beq_eq_true h.2.2]
  · rw [eq_of_beq h]
  · rw [eq_of_beq h]
  · rfl
  · rfl
  · cases h
theorem veqs_eq : ∀ {a b : List Value}, veqs a b = true → a = b
  | [], [], _ => rfl
  | [], _ :: _, h => by cases h
  | _ :: _, [], h => by cases h
  | x :: a, y :: b, h => by
    unfold veqs at h
    split at h
    · rename_i hx; rw [veq1_eq hx, veqs_eq h]
    · cases h
theorem veq_eq {u v : Value} (h : veq u v = true) : u = v := by
  unfold veq at h
  split at h
  · rename_i a b; obtain ⟨a⟩ := a; obtain ⟨b⟩ := b; rw [show a = b from veqs_eq h]
  · exact veq1_eq h
theorem aeq_eq {o o' : AObj} (h : aeq o o' = true) : o = o' := by
  unfold aeq at h
  split at h
  · rename_i e cs fx ro e' cs' fx' ro'
    rw [Bool.and_eq_true, Bool.and_eq_true, Bool.and_eq_true] at h
    obtain ⟨h1, h2, h3, h4⟩ := h
    rw [Nat.eq_of_beq_eq_true h1, veqs_eq h2, eq_of_beq h4]
    congr 1
    cases fx <;> cases fx' <;> simp only [fxEq] at h3 <;> first | rfl | (rw [Nat.eq_of_beq_eq_true h3]) | cases h3
  · split at h
    · rfl
    · cases h
  · cases h
end Go.Det
namespace Go.Det

/-! ### sets of numbers -/
theorem bitAt_eq (m i : Nat) : bitAt m i = m.testBit i := by
  unfold bitAt
  rw [Nat.testBit_eq_decide_div_mod_eq]
  have e1 : Nat.shiftRight m i = m / 2 ^ i := Nat.shiftRight_eq_div_pow m i
  rw [e1]
  have e2 : Nat.mod (m / 2 ^ i) 2 = m / 2 ^ i % 2 := rfl
  rw [e2, Bool.eq_iff_iff, decide_eq_true_iff]
  exact iff_of_eq Nat.beq_eq
theorem bit_preOf {ms : List Nat} {i : Nat} : ∀ {es : List Edge}, bitAt (preOf ms es) i = true → ∃ e ∈ es, bindsAny e = true ∧ (i = e.on ∨ bitAt (ms.getD e.on 0) i = true)
  | [], h => by rw [bitAt_eq] at h; simp [preOf] at h
  | e :: r, h => by
    unfold preOf at h
    cases hb : bindsAny e with
    | false =>
      rw [hb] at h
      obtain ⟨e', h1, h2⟩ := bit_preOf (es := r) h
      exact ⟨e', by simp [h1], h2⟩
    | true =>
      rw [hb] at h
      have h : bitAt (Nat.lor (Nat.lor (Nat.shiftLeft 1 e.on) (ms.getD e.on 0)) (preOf ms r)) i = true := h
      rw [bitAt_eq] at h
      have h : (((1 <<< e.on ||| ms.getD e.on 0) ||| preOf ms r).testBit i) = true := h
      rw [Nat.testBit_or, Nat.testBit_or, Bool.or_eq_true, Bool.or_eq_true] at h
      rcases h with (h | h) | h
      · refine ⟨e, by simp, hb, .inl ?_⟩
        rw [Nat.testBit_shiftLeft] at h
        rw [Bool.and_eq_true] at h
        have h1 : e.on ≤ i := by simpa using h.1
        have h2 := h.2
        rw [Nat.testBit_one_eq_true_iff_self_eq_zero] at h2
        omega
      · exact ⟨e, by simp, hb, .inr (by rw [bitAt_eq]; exact h)⟩
      · obtain ⟨e', h1, h2⟩ := bit_preOf (es := r) (by rw [bitAt_eq]; exact h)
        exact ⟨e', by simp [h1], h2⟩
theorem pres_append : ∀ (r : List Oper) (ms : List Nat), ∃ l, pres r ms = ms ++ l ∧ l.length = r.length
  | [], ms => ⟨[], by simp [pres], rfl⟩
  | o :: r, ms => by
    obtain ⟨l, h1, h2⟩ := pres_append r (ms ++ [preOf ms o.after.toList])
    exact ⟨preOf ms o.after.toList :: l, by unfold pres; rw [h1]; simp, by simp [h2]⟩
/-- each operation's set, in terms of the final list -/
theorem pres_get (all : List Oper) (hb : backOk all 0 = true) : ∀ (r : List Oper) (ms : List Nat) (j : Nat) (o : Oper), backOk r ms.length = true → r[j]? = some o →
    (pres r ms).getD (ms.length + j) 0 = preOf (pres r ms) o.after.toList
  | [], ms, j, o, _, h => by simp at h
  | x :: r, ms, j, o, hbk, h => by
    unfold backOk at hbk
    rw [Bool.and_eq_true] at hbk
    obtain ⟨l, h1, h2⟩ := pres_append r (ms ++ [preOf ms x.after.toList])
    have hl : (ms ++ [preOf ms x.after.toList]).length = ms.length + 1 := by simp
    cases j with
    | zero =>
      simp at h
      subst h
      unfold pres
      rw [h1]
      have e1 : (ms ++ [preOf ms x.after.toList] ++ l).getD (ms.length + 0) 0 = preOf ms x.after.toList := by simp
      rw [e1]
      -- the sets that it names lie in ms
      have key : ∀ (es : List Edge), (∀ e ∈ es, bindsAny e = true → e.on < ms.length) → preOf ms es = preOf (ms ++ [preOf ms x.after.toList] ++ l) es := by
        intro es
        induction es with
        | nil => intro _; rfl
        | cons e es ih =>
          intro he
          unfold preOf
          rw [ih fun e' h' => he e' (by simp [h'])]
          cases hb : bindsAny e with
          | false => rfl
          | true =>
            have := he e (by simp) hb
            have e2 : (ms ++ [preOf ms x.after.toList] ++ l).getD e.on 0 = ms.getD e.on 0 := by
              rw [List.getD_eq_getElem?_getD, List.getD_eq_getElem?_getD, List.append_assoc, List.getElem?_append_left this]
            rw [e2]
      refine key _ fun e he hbe => ?_
      have h3 := List.all_eq_true.1 hbk.1 e he
      rw [hbe] at h3
      exact lt_of_blt (by simpa using h3)
    | succ j =>
      have h : r[j]? = some o := by simpa using h
      have := pres_get all hb r (ms ++ [preOf ms x.after.toList]) j o (by rw [hl]; exact hbk.2) h
      unfold pres
      rw [hl] at this
      rw [show ms.length + (j + 1) = ms.length + 1 + j from by omega]
      exact this
theorem backOk_get : ∀ (r : List Oper) (i j : Nat) (o : Oper), backOk r i = true → r[j]? = some o → ∀ e ∈ o.after.toList, bindsAny e = true → e.on < i + j
  | [], i, j, o, _, h => by simp at h
  | x :: r, i, j, o, hb, h => by
    unfold backOk at hb
    rw [Bool.and_eq_true] at hb
    intro e he hbe
    cases j with
    | zero =>
      simp at h
      subst h
      have h3 := List.all_eq_true.1 hb.1 e he
      rw [hbe] at h3
      exact lt_of_blt (by simpa using h3)
    | succ j =>
      have := backOk_get r (i + 1) j o hb.2 (by simpa using h) e he hbe
      omega

/-- what has been done is closed under what stands before -/
def Closed (all : List Oper) (done : Nat → Prop) : Prop := ∀ j o, all[j]? = some o → done j → ∀ e ∈ o.after.toList, bindsAny e = true → done e.on
section
variable {all : List Oper} (hb : backOk all 0 = true)
include hb
theorem ms_get {j : Nat} {o : Oper} (h : all[j]? = some o) : (pres all []).getD j 0 = preOf (pres all []) o.after.toList := by
  have := pres_get all hb all [] j o hb h
  simpa using this
theorem pre_lt : ∀ (j i : Nat), j < all.length → bitAt ((pres all []).getD j 0) i = true → i < j := by
  intro j
  induction j using Nat.strongRecOn with
  | _ j ih =>
    intro i hj h
    have ho := List.getElem?_eq_getElem hj
    rw [ms_get hb ho] at h
    obtain ⟨e, he, hbe, hx⟩ := bit_preOf h
    have hlt := backOk_get all 0 j _ hb ho e he hbe
    rw [Nat.zero_add] at hlt
    rcases hx with rfl | hx
    · exact hlt
    · have := ih e.on hlt i (by omega) hx
      omega
theorem pre_done {done : Nat → Prop} (hc : Closed all done) : ∀ (j i : Nat), j < all.length → done j → bitAt ((pres all []).getD j 0) i = true → done i := by
  intro j
  induction j using Nat.strongRecOn with
  | _ j ih =>
    intro i hj hd h
    have ho := List.getElem?_eq_getElem hj
    rw [ms_get hb ho] at h
    obtain ⟨e, he, hbe, hx⟩ := bit_preOf h
    have hlt := backOk_get all 0 j _ hb ho e he hbe
    rw [Nat.zero_add] at hlt
    have hd' := hc j _ ho hd e he hbe
    rcases hx with rfl | hx
    · exact hd'
    · exact ih e.on hlt i (by omega) hd' hx
end

/-! ### pairs -/
theorem pairsAt_mem {m j : Nat} {cj : Cls} : ∀ {cs : List Cls} {i0 : Nat} {ps : List (Nat × Nat)}, pairsAt m j cj cs i0 = some ps → ∀ (i : Nat) (ci : Cls), cs[i]? = some ci → i0 + i < j → bitAt m (i0 + i) = false →
    may ci cj = some false ∨ (may ci cj = some true ∧ (i0 + i, j) ∈ ps)
  | [], _, _, _, i, ci, h, _, _ => by simp at h
  | c :: r, i0, ps, e, i, ci, h, hij, hbit => by
    unfold pairsAt at e
    split at e
    · rename_i hb; have := Nat.eq_of_beq_eq_true hb; omega
    · rename_i hb
      cases i with
      | zero =>
        simp at h
        subst h
        rw [Nat.add_zero] at hbit
        rw [hbit] at e
        dsimp only at e
        split at e
        · cases e
        · rename_i hm; exact .inl hm
        · rename_i hm
          split at e
          · cases e; exact .inr ⟨hm, by simp⟩
          · cases e
      | succ i =>
        have h : r[i]? = some ci := by simpa using h
        have go : ∀ {qs : List (Nat × Nat)}, pairsAt m j cj r (i0 + 1) = some qs → may ci cj = some false ∨ (may ci cj = some true ∧ (i0 + (i + 1), j) ∈ qs) := by
          intro qs hq
          have := pairsAt_mem hq i ci h (by omega) (by rw [show i0 + 1 + i = i0 + (i + 1) from by omega]; exact hbit)
          rwa [show i0 + 1 + i = i0 + (i + 1) from by omega] at this
        split at e
        · exact go e
        · split at e
          · cases e
          · exact go e
          · split at e
            · rename_i l hl
              cases e
              exact (go hl).imp id fun x => ⟨x.1, by simp [x.2]⟩
            · cases e
theorem pairsAll_mem {cs : List Cls} {ms : List Nat} : ∀ {r : List Cls} {j0 : Nat} {ps : List (Nat × Nat)}, pairsAll cs ms r j0 = some ps → ∀ (i j : Nat) (ci cj : Cls), cs[i]? = some ci → r[j]? = some cj → i < j0 + j → bitAt (ms.getD (j0 + j) 0) i = false →
    may ci cj = some false ∨ (may ci cj = some true ∧ (i, j0 + j) ∈ ps)
  | [], _, _, _, i, j, ci, cj, _, h, _, _ => by simp at h
  | c :: r, j0, ps, e, i, j, ci, cj, hi, h, hij, hbit => by
    unfold pairsAll at e
    split at e
    · rename_i a b ha hb
      cases e
      cases j with
      | zero =>
        simp at h
        subst h
        rw [Nat.add_zero] at hij hbit ⊢
        have := pairsAt_mem ha i ci hi (by omega) (by rw [Nat.zero_add]; exact hbit)
        rw [Nat.zero_add] at this
        exact this.imp id fun x => ⟨x.1, by simp [x.2]⟩
      | succ j =>
        have := pairsAll_mem hb i j ci cj hi (by simpa using h) (by omega) (by rw [show j0 + 1 + j = j0 + (j + 1) from by omega]; exact hbit)
        rw [show j0 + 1 + j = j0 + (j + 1) from by omega] at this
        exact this.imp id fun x => ⟨x.1, by simp [x.2]⟩
    · cases e
theorem pairsOk_mem {l : List Log} : ∀ {ps : List (Nat × Nat)}, pairsOk l ps = true → ∀ {i j : Nat}, (i, j) ∈ ps → pairOk (l.getD i .none) (l.getD j .none) = true
  | [], _, i, j, h => by simp at h
  | (x, y) :: r, e, i, j, h => by
    unfold pairsOk at e
    split at e
    · rename_i hp
      rcases List.mem_cons.1 h with h | h
      · cases h; exact hp
      · exact pairsOk_mem e h
    · cases e

/-! ### temporaries -/
theorem inL_iff (t : Nat) : ∀ (l : List Nat), inL t l = true ↔ t ∈ l
  | [] => by simp [inL]
  | x :: r => by
    unfold inL
    cases hb : Nat.beq x t with
    | true => have := Nat.eq_of_beq_eq_true hb; simp [this]
    | false =>
      have : x ≠ t := fun h => by rw [h] at hb; simp [Nat.beq_refl] at hb
      simp [inL_iff t r, Ne.symm this]
theorem tmpsOkAt_get {ms : List Nat} {all : List Oper} {i d : Nat} : ∀ {r : List Oper} {j0 : Nat}, tmpsOkAt ms all i d r j0 = true → ∀ (j : Nat) (o : Oper), r[j]? = some o → o.dst = some d ∨ d ∈ namesOf all o → ordered ms i (j0 + j) = true
  | [], _, _, j, o, h, _ => by simp at h
  | x :: r, j0, e, j, o, h, hx => by
    unfold tmpsOkAt at e
    rw [Bool.and_eq_true] at e
    cases j with
    | zero =>
      simp at h
      subst h
      have : (x.dst == some d || inL d (namesOf all x)) = true := by
        rw [Bool.or_eq_true]
        rcases hx with hx | hx
        · exact .inl (by rw [hx]; simp)
        · exact .inr ((inL_iff _ _).2 hx)
      rw [this] at e
      exact e.1
    | succ j =>
      have := tmpsOkAt_get e.2 j o (by simpa using h) hx
      rwa [show j0 + 1 + j = j0 + (j + 1) from by omega] at this
theorem tmpsOk_get {ms : List Nat} {all : List Oper} : ∀ {r : List Oper} {i0 : Nat}, tmpsOk ms all r i0 = true → ∀ (i : Nat) (o : Oper) (d : Nat), r[i]? = some o → o.dst = some d → ∀ (j : Nat) (o' : Oper), all[j]? = some o' → o'.dst = some d ∨ d ∈ namesOf all o' → ordered ms (i0 + i) j = true
  | [], _, _, i, o, d, h, _, _, _, _, _ => by simp at h
  | x :: r, i0, e, i, o, d, h, hd, j, o', hj, hx => by
    unfold tmpsOk at e
    rw [Bool.and_eq_true] at e
    cases i with
    | zero =>
      simp at h
      subst h
      rw [hd] at e
      have := tmpsOkAt_get e.1 j o' hj hx
      rwa [Nat.zero_add] at this
    | succ i =>
      have := tmpsOk_get e.2 i o d (by simpa using h) hd j o' hj hx
      rwa [show i0 + 1 + i = i0 + (i + 1) from by omega] at this

/-- the temporaries of a list alone -/
def restr (tm : Tmps) : List Nat → Tmps
  | [] => .nil
  | t :: r => match tm.get t with
    | some v => .cons t v (restr tm r)
    | none => restr tm r
theorem restr_get {tm : Tmps} {t : Nat} : ∀ {l : List Nat}, (t ∈ l → (restr tm l).get t = tm.get t) ∧ (∀ v, (restr tm l).get t = some v → t ∈ l ∧ tm.get t = some v)
  | [] => ⟨fun h => by simp at h, fun v h => by cases h⟩
  | x :: r => by
    obtain ⟨a, b⟩ := restr_get (tm := tm) (t := t) (l := r)
    unfold restr
    split
    · rename_i v hv
      refine ⟨fun h => ?_, fun u hu => ?_⟩
      · rw [Tmps.get_cons]
        by_cases hx : x = t
        · rw [if_pos hx, ← hx, hv]
        · rw [if_neg hx]
          exact a ((List.mem_cons.1 h).resolve_left (Ne.symm hx))
      · rw [Tmps.get_cons] at hu
        by_cases hx : x = t
        · rw [if_pos hx] at hu; cases hu; exact ⟨by simp [hx], by rw [← hx]; exact hv⟩
        · rw [if_neg hx] at hu; obtain ⟨p, q⟩ := b u hu; exact ⟨by simp [p], q⟩
    · rename_i hv
      refine ⟨fun h => ?_, fun u hu => ?_⟩
      · by_cases hx : t ∈ r
        · exact a hx
        · have : t = x := (List.mem_cons.1 h).resolve_right hx
          subst this
          rw [hv]
          cases hq : (restr tm r).get t with
          | none => rfl
          | some u => exact absurd (b u hq).1 hx
      · obtain ⟨p, q⟩ := b u hu; exact ⟨by simp [p], q⟩
theorem opdsOf_mem {t : Nat} : ∀ {l : List Operand}, .tmp t ∈ l → t ∈ opdsOf l
  | [], h => by simp at h
  | x :: r, h => by
    cases x with
    | tmp s =>
      unfold opdsOf
      rcases List.mem_cons.1 h with h | h
      · cases h; simp
      · simp [opdsOf_mem h]
    | _ =>
      unfold opdsOf
      rcases List.mem_cons.1 h with h | h
      · cases h
      · exact opdsOf_mem h
end Go.Det
namespace Go.Det

/-! ### a region's run in the order of the text, state by state -/
abbrev St := Tmps × Heap × Nat

/-- what an operation does in the text's order -/
inductive Did (P : Program) (T : Tbl) (call : CallA) (nt : Nat) (all : List Oper) (o : Oper) (s s' : St) : Prop
  | skip {g : Option (Nat × Bool)} (hg : guardT all o = some g) (hw : wantA g s.1 = some false) (hh : s'.2.1 = s.2.1) (hn : s'.2.2 = s.2.2) (hp : putA nt o.dst s.1 (.tuple #[]) = some s'.1)
  | run {g : Option (Nat × Bool)} {f0 : Tmps → Heap → Nat → Option AR} {v : Value} (hg : guardT all o = some g) (hw : wantA g s.1 = some true) (hop : opC P T o.op = .mk f0) (hu : uponA call s.2.1 s.2.2 (f0 s.1 s.2.1 s.2.2) = some (v, s'.2.1, s'.2.2)) (hp : putA nt o.dst s.1 v = some s'.1)

theorem did_of {P : Program} {T : Tbl} {call : CallA} {nt : Nat} {all : List Oper} {o : Oper} {f : CallA → Tmps → Heap → Nat → R3} {s s' : St} (ho : oc P T nt all o = .mk f) (e : f call s.1 s.2.1 s.2.2 = some s') : Did P T call nt all o s s' := by
  obtain ⟨tm, h, n⟩ := s
  obtain ⟨tm', h', n'⟩ := s'
  dsimp only at e
  unfold oc at ho
  split at ho
  · rename_i g hg
    cases hop : opC P T o.op with
    | mk f0 =>
    rw [hop] at ho
    have laid : wantA g tm = some true → laidA nt o.dst tm (uponA call h n (f0 tm h n)) = some (tm', h', n') → Did P T call nt all o (tm, h, n) (tm', h', n') := by
      intro hw hl
      unfold laidA at hl
      split at hl
      · rename_i v h1 n1 hu
        split at hl
        · rename_i tm1 hp
          cases hl
          exact .run hg hw hop hu hp
        · cases hl
      · cases hl
    unfold ocG at ho
    dsimp only at ho
    cases g with
    | none => cases ho; exact laid rfl e
    | some g =>
      cases ho
      dsimp only at e
      split at e
      · rename_i hw; exact laid hw e
      · rename_i hw
        unfold skippedA at e
        split at e
        · rename_i tm1 hp
          cases e
          exact .skip hg hw rfl rfl hp
        · cases e
      · cases e
  · cases ho; cases e

/-- the text's run: its states, and what is kept of each operation -/
structure Text (P : Program) (T : Tbl) (call : CallA) (nt : Nat) (all : List Oper) (S : Nat → St) : Prop where
  step : ∀ (k : Nat) (o : Oper), all[k]? = some o → Did P T call nt all o (S k) (S (k + 1))

def logAt (P : Program) (T : Tbl) (all : List Oper) (S : Nat → St) (k : Nat) : Log := match all[k]? with
  | some o => ocLog P T all o (S k).1 (S k).2.1 (S k).2.2 (S (k + 1)).2.1
  | none => .none

theorem text_cons {P : Program} {T : Tbl} {call : CallA} {nt : Nat} {all r : List Oper} {i : Nat} {o : Oper} (hr : o :: r = all.drop i) : all[i]? = some o ∧ r = all.drop (i + 1) := by
  have hi : i < all.length := by
    rcases Nat.lt_or_ge i all.length with x | x
    · exact x
    · rw [List.drop_eq_nil_of_le x] at hr; cases hr
  rw [List.drop_eq_getElem_cons hi] at hr
  obtain ⟨h1, h2⟩ := List.cons.inj hr
  exact ⟨by rw [List.getElem?_eq_getElem hi, h1], h2⟩

def consS (i : Nat) (s : St) (S : Nat → St) : Nat → St := fun k => if k = i then s else S k
theorem consS_same (i : Nat) (s : St) (S : Nat → St) : consS i s S i = s := by unfold consS; rw [if_pos rfl]
theorem consS_ne {i k : Nat} (s : St) (S : Nat → St) (h : k ≠ i) : consS i s S k = S k := by unfold consS; rw [if_neg h]
theorem text_ops {P : Program} {T : Tbl} {call : CallA} {nt : Nat} {all : List Oper} : ∀ (r : List Oper) (i : Nat) {tm : Tmps} {h : Heap} {n : Nat} {s' : St}, r = all.drop i → aOps P T call nt all r tm h n = some s' →
    ∃ S : Nat → St, S i = (tm, h, n) ∧ S (i + r.length) = s' ∧ ∀ (k : Nat) (o : Oper), i ≤ k → all[k]? = some o → Did P T call nt all o (S k) (S (k + 1))
  | [], i, tm, h, n, s', hr, e => by
    cases e
    refine ⟨fun _ => (tm, h, n), rfl, rfl, fun k o hk ho => ?_⟩
    have : all.length ≤ i := List.drop_eq_nil_iff.1 hr.symm
    rw [List.getElem?_eq_none (by omega)] at ho
    cases ho
  | o :: r, i, tm, h, n, s', hr, e => by
    obtain ⟨ho, hr'⟩ := text_cons (P := P) (T := T) (call := call) (nt := nt) hr
    unfold aOps at e
    cases hoc : oc P T nt all o with
    | mk f =>
    rw [hoc] at e
    dsimp only at e
    split at e
    · rename_i tm1 h1 n1 hf
      obtain ⟨S, s1, s2, s3⟩ := text_ops r (i + 1) hr' e
      refine ⟨consS i (tm, h, n) S, consS_same _ _ _, ?_, fun k o' hk ho' => ?_⟩
      · rw [consS_ne _ _ (by rw [List.length_cons]; omega), ← s2, List.length_cons]
        congr 1; omega
      · by_cases hki : k = i
        · subst hki
          rw [consS_same, consS_ne _ _ (by omega), s1]
          rw [ho] at ho'
          cases ho'
          exact did_of hoc hf
        · rw [consS_ne _ _ hki, consS_ne _ _ (by omega)]
          exact s3 k o' (by omega) ho'
    · cases e

theorem catL_snoc (l : List Log) (x : Log) : catL l [x] = l ++ [x] := by rw [catL_eq]
theorem text_opsD {P : Program} {T : Tbl} {call : CallA} {nt : Nat} {all : List Oper} : ∀ (r : List Oper) (i : Nat) {tm tm' : Tmps} {h h' : Heap} {n n' : Nat} {l l' : List Log}, r = all.drop i → l.length = i → aOpsD P T call nt all r tm h n l = some (tm', h', n', l') →
    ∃ S : Nat → St, S i = (tm, h, n) ∧ S (i + r.length) = (tm', h', n') ∧ (∀ (k : Nat) (o : Oper), i ≤ k → all[k]? = some o → Did P T call nt all o (S k) (S (k + 1))) ∧
      (∀ k, k < i → l'.getD k .none = l.getD k .none) ∧ ∀ k, i ≤ k → k < all.length → l'.getD k .none = logAt P T all S k
  | [], i, tm, tm', h, h', n, n', l, l', hr, hl, e => by
    cases e
    have : all.length ≤ i := List.drop_eq_nil_iff.1 hr.symm
    refine ⟨fun _ => (tm, h, n), rfl, rfl, fun k o hk ho => ?_, fun _ _ => rfl, fun k _ _ => by omega⟩
    rw [List.getElem?_eq_none (by omega)] at ho
    cases ho
  | o :: r, i, tm, tm', h, h', n, n', l, l', hr, hl, e => by
    obtain ⟨ho, hr'⟩ := text_cons (P := P) (T := T) (call := call) (nt := nt) hr
    unfold aOpsD at e
    cases hoc : oc P T nt all o with
    | mk f =>
    rw [hoc] at e
    dsimp only at e
    split at e
    · rename_i tm1 h1 n1 hf
      rw [catL_snoc] at e
      obtain ⟨S, s1, s2, s3, s4, s5⟩ := text_opsD r (i + 1) hr' (by simp [hl]) e
      refine ⟨consS i (tm, h, n) S, consS_same _ _ _, ?_, fun k o' hk ho' => ?_, fun k hk => ?_, fun k hk hka => ?_⟩
      · rw [consS_ne _ _ (by rw [List.length_cons]; omega), ← s2, List.length_cons]
        congr 1; omega
      · by_cases hki : k = i
        · subst hki
          rw [consS_same, consS_ne _ _ (by omega), s1]
          rw [ho] at ho'
          cases ho'
          exact did_of hoc hf
        · rw [consS_ne _ _ hki, consS_ne _ _ (by omega)]
          exact s3 k o' (by omega) ho'
      · rw [s4 k (by omega)]
        rw [List.getD_eq_getElem?_getD, List.getD_eq_getElem?_getD, List.getElem?_append_left (by omega)]
      · by_cases hki : k = i
        · subst hki
          rw [s4 k (by omega)]
          unfold logAt
          rw [ho]
          dsimp only
          rw [consS_same, consS_ne _ _ (by omega), s1]
          rw [List.getD_eq_getElem?_getD, ← hl, List.getElem?_append_right (Nat.le_refl _)]
          simp
        · rw [s5 k (by omega) hka]
          unfold logAt
          rw [consS_ne _ _ hki, consS_ne _ _ (by omega)]
    · cases e

/-! ### what is told of the states -/
section
variable {P : Program} {T : Tbl} {call : CallA} {nt : Nat} {all : List Oper} {S : Nat → St}
/-- the kind of an operation that is wanted -/
def kd (T : Tbl) (all : List Oper) (S : Nat → St) (k : Nat) : Option Cls := match all[k]? with
  | some o => match guardT all o with
    | some g => match wantA g (S k).1 with
      | some true => some (cls T o.op)
      | _ => none
    | none => none
  | none => none
theorem kd_of {k : Nat} {c : Cls} (h : kd T all S k = some c) : ∃ o g, all[k]? = some o ∧ guardT all o = some g ∧ wantA g (S k).1 = some true ∧ cls T o.op = c := by
  unfold kd at h
  split at h
  · rename_i o ho
    split at h
    · rename_i g hg
      split at h
      · rename_i hw; cases h; exact ⟨o, g, ho, hg, hw, rfl⟩
      · cases h
    · cases h
  · cases h
theorem kd_eq {k : Nat} {o : Oper} {g : Option (Nat × Bool)} (ho : all[k]? = some o) (hg : guardT all o = some g) (hw : wantA g (S k).1 = some true) : kd T all S k = some (cls T o.op) := by
  unfold kd; rw [ho]; dsimp only; rw [hg]; dsimp only; rw [hw]
theorem kd_none {k : Nat} {o : Oper} {g : Option (Nat × Bool)} (ho : all[k]? = some o) (hg : guardT all o = some g) (hw : wantA g (S k).1 = some false) : kd T all S k = none := by
  unfold kd; rw [ho]; dsimp only; rw [hg]; dsimp only; rw [hw]
def Hv (T : Tbl) (all : List Oper) (S : Nat → St) (k : Nat) : Prop := kd T all S k = some .s ∨ kd T all S k = some .c
def Al (T : Tbl) (all : List Oper) (S : Nat → St) (k : Nat) : Prop := kd T all S k = some .a
theorem Hv.lt {k : Nat} (h : Hv T all S k) : k < all.length := by
  rcases h with h | h <;> (obtain ⟨o, g, ho, _⟩ := kd_of h; exact (List.getElem?_eq_some_iff.1 ho).1)
theorem Al.lt {k : Nat} (h : Al T all S k) : k < all.length := by
  obtain ⟨o, g, ho, _⟩ := kd_of h; exact (List.getElem?_eq_some_iff.1 ho).1

variable (X : Text P T call nt all S) (MC : MonoC call)
include X
/-- an operation that is no heavy one and makes nothing leaves the heap -/
theorem light {k : Nat} (hk : k < all.length) (h1 : ¬ Hv T all S k) (h2 : ¬ Al T all S k) : (S (k + 1)).2.1 = (S k).2.1 ∧ (S (k + 1)).2.2 = (S k).2.2 := by
  have ho := List.getElem?_eq_getElem hk
  have d := X.step k _ ho
  generalize all[k] = o at *
  cases d with
  | skip _ _ hh hn _ => exact ⟨hh, hn⟩
  | run hg hw hop hu hp =>
    rename_i g f0 v
    have hkd := kd_eq (T := T) ho hg hw
    cases hc : cls T o.op with
    | p =>
      obtain ⟨q, hq⟩ := cls_p hc hop
      rw [hq] at hu
      cases hx : q (S k).1 with
      | none => rw [hx] at hu; cases hu
      | some y =>
        rw [hx] at hu
        have hu : some (y, (S k).2.1, (S k).2.2) = some (v, (S (k+1)).2.1, (S (k+1)).2.2) := hu
        simp only [Option.some.injEq, Prod.mk.injEq] at hu
        exact ⟨hu.2.1.symm, hu.2.2.symm⟩
    | l =>
      obtain ⟨q, hq⟩ := cls_l hc hop
      rw [hq] at hu
      cases hx : q (S k).1 (S k).2.1 with
      | none => rw [hx] at hu; cases hu
      | some y =>
        rw [hx] at hu
        have hu : some (y, (S k).2.1, (S k).2.2) = some (v, (S (k+1)).2.1, (S (k+1)).2.2) := hu
        simp only [Option.some.injEq, Prod.mk.injEq] at hu
        exact ⟨hu.2.1.symm, hu.2.2.symm⟩
    | a => exact absurd (by rw [Al, hkd, hc]) h2
    | s => exact absurd (.inl (by rw [hkd, hc])) h1
    | c => exact absurd (.inr (by rw [hkd, hc])) h1
/-- one that makes a block -/
theorem makes {k : Nat} (h : Al T all S k) : ∃ (o : Oper) (f0 : Tmps → Heap → Nat → Option AR) (ob : AObj) (pv : Nat → Value), all[k]? = some o ∧ opC P T o.op = .mk f0 ∧ (∀ h n, f0 (S k).1 h n = newA h n ob (pv n)) ∧ hput (S k).2.1 (S k).2.2 ob = some (S (k + 1)).2.1 ∧ (S (k + 1)).2.2 = (S k).2.2 + 1 ∧ (∀ vs, ob ≠ .pipe vs) ∧ putA nt o.dst (S k).1 (pv (S k).2.2) = some (S (k + 1)).1 := by
  obtain ⟨o, g, ho, hg, hw, hc⟩ := kd_of h
  have d := X.step k _ ho
  cases d with
  | skip hg' hw' => rw [hg] at hg'; cases hg'; rw [hw] at hw'; cases hw'
  | run hg' hw' hop hu hp =>
    rename_i g' f0 v
    rcases cls_a hc hop (S k).1 with hn | ⟨ob, pv, hnp, hn⟩
    · rw [hn] at hu; cases hu
    · rw [hn] at hu
      unfold newA at hu
      cases hq : hput (S k).2.1 (S k).2.2 ob with
      | none => rw [hq] at hu; cases hu
      | some h1 =>
        rw [hq] at hu
        dsimp only at hu
        rw [nat!_eq] at hu
        have hu : some (pv (S k).2.2, h1, Nat.succ (S k).2.2) = some (v, (S (k+1)).2.1, (S (k+1)).2.2) := hu
        simp only [Option.some.injEq, Prod.mk.injEq] at hu
        obtain ⟨u1, u2, u3⟩ := hu
        refine ⟨o, f0, ob, pv, ho, hop, hn, by rw [hq, u2], u3.symm, hnp, by rw [u1]; exact hp⟩
theorem nmono {k : Nat} (MC : MonoC call) (hk : k < all.length) : (S k).2.2 ≤ (S (k + 1)).2.2 := by
  have ho := List.getElem?_eq_getElem hk
  have d := X.step k _ ho
  cases d with
  | skip _ _ hh hn _ => exact Nat.le_of_eq hn.symm
  | run hg hw hop hu hp =>
    rename_i g f0 v
    cases har : f0 (S k).1 (S k).2.1 (S k).2.2 with
    | none => rw [har] at hu; cases hu
    | some ar => rw [har] at hu; exact upon_mono MC (opC_mono hop har) hu
theorem nmono' (MC : MonoC call) : ∀ (d k : Nat), k + d ≤ all.length → (S k).2.2 ≤ (S (k + d)).2.2
  | 0, k, _ => Nat.le_refl _
  | d + 1, k, h => Nat.le_trans (nmono' MC d k (by omega)) (nmono X MC (k := k + d) (by omega))
theorem nmono2 (MC : MonoC call) {j k : Nat} (h : j ≤ k) (hk : k ≤ all.length) : (S j).2.2 ≤ (S k).2.2 := by
  have := nmono' X MC (k - j) j (by omega)
  rwa [show j + (k - j) = k from by omega] at this
/-- a temporary that is not written stays -/
theorem tmp_step {k t : Nat} (hk : k < all.length) (h : ∀ o, all[k]? = some o → o.dst ≠ some t) : (S (k + 1)).1.get t = (S k).1.get t := by
  have ho := List.getElem?_eq_getElem hk
  have d := X.step k _ ho
  have hd := h _ ho
  generalize all[k] = o at *
  have key : ∀ {v : Value} {tm tm' : Tmps}, putA nt o.dst tm v = some tm' → tm'.get t = tm.get t := by
    intro v tm tm' e
    cases hx : o.dst with
    | none => rw [hx] at e; cases e; rfl
    | some d =>
      rw [hx] at e
      simp only [putA] at e
      split at e
      · cases e
        rw [Tmps.get_cons, if_neg (fun hdt => hd (by rw [hx, hdt]))]
      · cases e
  cases d with
  | skip _ _ _ _ hp => exact key hp
  | run _ _ _ _ hp => exact key hp
theorem tmp_steps {t : Nat} : ∀ (d k : Nat), k + d ≤ all.length → (∀ j o, k ≤ j → j < k + d → all[j]? = some o → o.dst ≠ some t) → (S (k + d)).1.get t = (S k).1.get t
  | 0, k, _, _ => rfl
  | d + 1, k, hk, h => by
    rw [show k + (d + 1) = (k + d) + 1 from by omega, tmp_step X (k := k + d) (by omega) (fun o ho => h (k + d) o (by omega) (by omega) ho)]
    exact tmp_steps d k (by omega) fun j o h1 h2 => h j o h1 (by omega)
/-- between heavy operations a heap only gains blocks -/
theorem quiet_get (MC : MonoC call) : ∀ (d q : Nat), q + d ≤ all.length → (∀ j, q ≤ j → j < q + d → ¬ Hv T all S j) → (∀ i, (S q).2.2 ≤ i → (S q).2.1.get i = none) →
    (∀ i, (S (q + d)).2.2 ≤ i → (S (q + d)).2.1.get i = none) ∧
    (∀ i, i < (S q).2.2 → (S (q + d)).2.1.get i = (S q).2.1.get i) ∧
    (∀ j, q ≤ j → j < q + d → Al T all S j → (S (q + d)).2.1.get (S j).2.2 = (S (j + 1)).2.1.get (S j).2.2) ∧
    (∀ i o, (S q).2.2 ≤ i → (S (q + d)).2.1.get i = some o → ∃ j, q ≤ j ∧ j < q + d ∧ Al T all S j ∧ i = (S j).2.2)
  | 0, q, _, _, low => ⟨low, fun i _ => rfl, fun j h1 h2 => by omega, fun i o h1 h2 => by rw [Nat.add_zero, low i h1] at h2; cases h2⟩
  | d + 1, q, hk, hn, low => by
    obtain ⟨a1, a2, a3, a4⟩ := quiet_get MC d q (by omega) (fun j h1 h2 => hn j h1 (by omega)) low
    have hq : (S q).2.2 ≤ (S (q + d)).2.2 := nmono2 X MC (by omega) (by omega)
    rw [show q + (d + 1) = (q + d) + 1 from by omega]
    by_cases ha : Al T all S (q + d)
    · obtain ⟨o, f0, ob, pv, _, _, _, hp, hs, _, _⟩ := makes X ha
      have get : ∀ i, (S (q + d + 1)).2.1.get i = if i = (S (q + d)).2.2 then some ob else (S (q + d)).2.1.get i := fun i => hput_get hp i
      refine ⟨fun i hi => ?_, fun i hi => ?_, fun j h1 h2 hj => ?_, fun i o' h1 h2 => ?_⟩
      · rw [get, if_neg (by omega)]; exact a1 i (by omega)
      · rw [get, if_neg (by omega)]; exact a2 i hi
      · by_cases hjd : j = q + d
        · subst hjd; rfl
        · have hjl : (S (j + 1)).2.2 ≤ (S (q + d)).2.2 := nmono2 X MC (by omega) (by omega)
          obtain ⟨_, _, _, _, _, _, _, _, hs', _, _⟩ := makes X hj
          rw [get, if_neg (by omega)]
          exact a3 j h1 (by omega) hj
      · rw [get] at h2
        split at h2
        · rename_i hi; exact ⟨q + d, by omega, by omega, ha, hi⟩
        · obtain ⟨j, b1, b2, b3, b4⟩ := a4 i o' h1 h2
          exact ⟨j, b1, by omega, b3, b4⟩
    · obtain ⟨e1, e2⟩ := light X (k := q + d) (by omega) (hn _ (by omega) (by omega)) ha
      rw [e1, e2]
      refine ⟨a1, a2, fun j h1 h2 hj => ?_, fun i o' h1 h2 => ?_⟩
      · have : j ≠ q + d := fun h => ha (h ▸ hj)
        exact a3 j h1 (by omega) hj
      · obtain ⟨j, b1, b2, b3, b4⟩ := a4 i o' h1 h2
        exact ⟨j, b1, by omega, b3, b4⟩
end
end Go.Det
namespace Go.Det

/-! ### a region in another order: the memory -/
def Img0 (ρ0 : Ren) (h0 : Heap) (b : Nat) : Prop := ∃ j m o, ρ0 j = some m ∧ h0.get j = some o ∧ o.ro = false ∧ m.b = b

def Im0 (ρ0 : Ren) (h0 : Heap) (b : Nat) : Prop := ∃ j m o, ρ0 j = some m ∧ h0.get j = some o ∧ m.b = b
theorem Img0.im {ρ0 : Ren} {h0 : Heap} {b : Nat} (h : Img0 ρ0 h0 b) : Im0 ρ0 h0 b := let ⟨j, m, o, a, b, _, d⟩ := h; ⟨j, m, o, a, b, d⟩
/-- what is told of the memory: L: which blocks are known -/
structure DW (ρ0 : Ren) (h0 : Heap) (w0 : World) (pm0 : Perm) (n0 nN : Nat) (L : Nat → AObj → Prop) (ρ : Ren) (w : World) (pm : Perm) : Prop where
  glob : ∀ g, g < 64 → ρ g = some ⟨g, 0, none⟩
  at' : ∀ i m o, ρ i = some m → L i o → There ρ w pm m o
  inj : ∀ i j m m' o o', ρ i = some m → ρ j = some m' → L i o → L j o' → m.b = m'.b → i = j
  le : ρ0.le ρ
  off : ∀ i, ¬ (n0 ≤ i ∧ i < nN) → ρ i = ρ0 i
  size : w0.heap.size ≤ w.heap.size
  rd : ∀ b, pm0.rd b → pm.rd b
  rd' : ∀ b, pm.rd b → pm0.rd b ∨ (w0.heap.size ≤ b ∧ b < w.heap.size)
  wr : ∀ b, pm.wr b → pm0.wr b ∨ (w0.heap.size ≤ b ∧ b < w.heap.size)
  world : w.tape = w0.tape ∧ w.os = w0.os ∧ w.output = w0.output
  old : ∀ b, b < w0.heap.size → pm0.rd b → ¬ pm0.wr b → w.heap[b]? = w0.heap[b]?
  frame : ∀ b, b < w0.heap.size → pm0.rd b → ¬ Img0 ρ0 h0 b → w.heap[b]? = w0.heap[b]?
  imgs : ∀ i m, n0 ≤ i → i < nN → ρ i = some m → w0.heap.size ≤ m.b ∨ Img0 ρ0 h0 m.b
  mid : ∀ i m o, ρ i = some m → L i o → o.ro = false → w0.heap.size ≤ m.b ∨ Img0 ρ0 h0 m.b
  kwr : ∀ b, b < w0.heap.size → pm0.wr b → ¬ Im0 ρ0 h0 b → pm.wr b
  mid' : ∀ i m o, ρ i = some m → L i o → w0.heap.size ≤ m.b ∨ Im0 ρ0 h0 m.b

theorem DW.step {ρ0 : Ren} {h0 : Heap} {w0 : World} {pm0 : Perm} {n0 nN : Nat} {L L' : Nat → AObj → Prop} {ρ ρ' : Ren} {w w' : World} {pm pm' : Perm} {hx hx' : Heap} {nx nx' : Nat}
    (I : DW ρ0 h0 w0 pm0 n0 nN L ρ w pm) (r : Runs ρ hx w pm nx ρ' hx' w' pm' nx') (x1 : ∀ i m o, ρ i = some m → hx.get i = some o → L i o) (x2 : nx = nx' ∨ (n0 ≤ nx ∧ nx' ≤ nN))
    (x3 : ∀ i m o, ρ' i = some m → L' i o → hx'.get i = some o ∨ (ρ i = some m ∧ L i o ∧ hx.get i = none)) : DW ρ0 h0 w0 pm0 n0 nN L' ρ' w' pm' := by
  have as := I.size
  have bs := r.size
  -- an image of a block of hx that may be written
  have img : ∀ j mj oj, ρ j = some mj → hx.get j = some oj → oj.ro = false → w0.heap.size ≤ mj.b ∨ Img0 ρ0 h0 mj.b := fun j mj oj a b c => I.mid j mj oj a (x1 j mj oj a b) c
  have new : ∀ i m, nx ≤ i → i < nx' → ρ' i = some m → w0.heap.size ≤ m.b ∨ Img0 ρ0 h0 m.b := by
    intro i m a b c
    rcases r.imgs i m a b c with x | ⟨j, m0, o, y1, y2, y3, y4⟩
    · exact .inl (by omega)
    · rw [← y4]; exact img j m0 o y1 y2 y3
  have keep : ∀ i m o, ρ' i = some m → hx'.get i = some o → ¬ (nx ≤ i ∧ i < nx') → ρ i = some m ∧ ∃ o0, hx.get i = some o0 := by
    intro i m o a b c
    refine ⟨by rw [← r.off i c]; exact a, ?_⟩
    cases e : hx.get i with
    | none => rw [r.hold i e c] at b; cases b
    | some o0 => exact ⟨o0, rfl⟩
  -- a block known on one side alone
  have apart : ∀ i m o j mj oj, ρ' i = some m → hx'.get i = some o → ρ j = some mj → L j oj → hx.get j = none → m.b = mj.b → i = j := by
    intro i m o j mj oj a b c d e f
    exfalso
    by_cases hi : nx ≤ i ∧ i < nx'
    · rcases r.imgs i m hi.1 hi.2 a with x | ⟨j0, m0, o0, y1, y2, y3, y4⟩
      · have := (I.at' j mj oj c d).lt
        omega
      · have := I.inj j0 j m0 mj o0 oj y1 c (x1 _ _ _ y1 y2) d (by rw [y4, f])
        subst this
        rw [e] at y2; cases y2
    · obtain ⟨y1, o0, y2⟩ := keep i m o a b hi
      have := I.inj i j m mj o0 oj y1 c (x1 _ _ _ y1 y2) d f
      subst this
      rw [e] at y2; cases y2
  refine ⟨fun g hg => r.le _ _ (I.glob g hg), fun i m o a b => ?_, fun i j m m' o o' a b c d e => ?_, fun i m a => r.le _ _ (I.le _ _ a), fun i hi => ?_, by omega, fun b hb => r.rd b (I.rd b hb), fun b hb => ?_, fun b hb => ?_, ?_, fun b hb hr hp => ?_, fun b hb hr hf => ?_, fun i m a b c => ?_, fun i m o a b c => ?_, fun b hb hw hf => ?_, fun i m o a b => ?_⟩
  · rcases x3 i m o a b with x | ⟨y1, y2, y3⟩
    · exact r.sim.at' i m o a x
    · have t := I.at' i m o y1 y2
      have nim : ∀ j mj oj, ρ j = some mj → hx.get j = some oj → oj.ro = false → mj.b ≠ m.b := by
        intro j mj oj a1 a2 _ a4
        have := I.inj j i mj m oj o a1 y1 (x1 _ _ _ a1 a2) y2 a4
        subst this
        rw [y3] at a2; cases a2
      have nim' : ∀ j mj oj, ρ j = some mj → hx.get j = some oj → mj.b ≠ m.b := by
        intro j mj oj a1 a2 a4
        have := I.inj j i mj m oj o a1 y1 (x1 _ _ _ a1 a2) y2 a4
        subst this
        rw [y3] at a2; cases a2
      by_cases hp : ∀ vs, o ≠ .pipe vs
      · obtain ⟨ro, z1, z2, z3, z4⟩ := t.get hp
        exact There.of (by rw [r.frame m.b t.lt z3 nim]; exact z1) (z2.mono r.le) (r.rd _ z3) fun h => r.kwr _ t.lt (z4 h) nim'
      · cases o with
        | pipe vs => exact Nat.lt_of_lt_of_le (show m.b < w.heap.size from t) bs
        | _ => exact absurd (fun vs h => by cases h) hp
  · rcases x3 i m o a c with x | ⟨y1, y2, y3⟩ <;> rcases x3 j m' o' b d with z | ⟨z1, z2, z3⟩
    · exact r.sim.inj i j m m' o o' a b x z e
    · exact apart i m o j m' o' a x z1 z2 z3 e
    · exact (apart j m' o' i m o b z y1 y2 y3 e.symm).symm
    · exact I.inj i j m m' o o' y1 z1 y2 z2 e
  · rw [r.off i (by omega), I.off i hi]
  · rcases r.rd' b hb with x | x
    · rcases I.rd' b x with y | y
      · exact .inl y
      · exact .inr ⟨y.1, by omega⟩
    · exact .inr ⟨by omega, x.2⟩
  · rcases r.wr b hb with x | x
    · rcases I.wr b x with y | y
      · exact .inl y
      · exact .inr ⟨y.1, by omega⟩
    · exact .inr ⟨by omega, x.2⟩
  · obtain ⟨x1, x2, x3⟩ := I.world
    obtain ⟨y1, y2, y3⟩ := r.world
    exact ⟨y1.trans x1, y2.trans x2, y3.trans x3⟩
  · rw [r.old b (by omega) (I.rd b hr) (fun x => (I.wr b x).elim hp fun y => by omega), I.old b hb hr hp]
  · rw [r.frame b (by omega) (I.rd b hr) (fun j mj oj a1 a2 a3 a4 => ?_), I.frame b hb hr hf]
    rcases img j mj oj a1 a2 a3 with x | x
    · omega
    · exact hf (a4 ▸ x)
  · by_cases hi : nx ≤ i ∧ i < nx'
    · exact new i m hi.1 hi.2 c
    · rw [r.off i hi] at c
      exact I.imgs i m a b c
  · rcases x3 i m o a b with x | ⟨y1, y2, y3⟩
    · by_cases hi : nx ≤ i ∧ i < nx'
      · exact new i m hi.1 hi.2 a
      · obtain ⟨y1, o0, y2⟩ := keep i m o a x hi
        cases hr : o0.ro with
        | false => exact img i m o0 y1 y2 hr
        | true => rw [r.ro i m o0 o hi y1 y2 hr x] at c; cases c
    · exact I.mid i m o y1 y2 c
  · refine r.kwr b (by omega) (I.kwr b hb hw hf) fun j mj oj a1 a2 a4 => ?_
    rcases I.mid' j mj oj a1 (x1 j mj oj a1 a2) with x | x
    · omega
    · exact hf (a4 ▸ x)
  · rcases x3 i m o a b with x | ⟨y1, y2, y3⟩
    · by_cases hi : nx ≤ i ∧ i < nx'
      · exact (new i m hi.1 hi.2 a).imp (fun y => y) Img0.im
      · obtain ⟨y1, o0, y2⟩ := keep i m o a x hi
        exact I.mid' i m o0 y1 (x1 _ _ _ y1 y2)
    · exact I.mid' i m o y1 y2

/-- known blocks, as a heap -/
theorem DW.sim {ρ0 : Ren} {h0 : Heap} {w0 : World} {pm0 : Perm} {n0 nN : Nat} {L : Nat → AObj → Prop} {ρ : Ren} {w : World} {pm : Perm} {hx : Heap} (I : DW ρ0 h0 w0 pm0 n0 nN L ρ w pm) (x1 : ∀ i m o, ρ i = some m → hx.get i = some o → L i o) : Sim ρ hx w pm :=
  ⟨I.glob, fun i m o a b => I.at' i m o a (x1 i m o a b), fun i j m m' o o' a b c d => I.inj i j m m' o o' a b (x1 _ _ _ a c) (x1 _ _ _ b d)⟩

/-! ### .. which operations are done -/
section
variable {P : Program} {T : Tbl} {call : CallA} {nt : Nat} {all : List Oper} {S : Nat → St}
def Live (T : Tbl) (all : List Oper) (S : Nat → St) (done : Nat → Prop) (q i : Nat) (o : AObj) : Prop :=
  (i < (S q).2.2 ∧ (S q).2.1.get i = some o) ∨ ∃ j, q ≤ j ∧ Al T all S j ∧ done j ∧ i = (S j).2.2 ∧ (S (j + 1)).2.1.get i = some o

structure DS (P : Program) (T : Tbl) (call : CallA) (nt : Nat) (all : List Oper) (S : Nat → St) (ρ0 : Ren) (NN : Nat) (done : Nat → Prop) (q : Nat) (σ : Stage) (ρ : Ren) (a : Act) : Prop where
  closed : Closed all done
  qN : q ≤ all.length
  hq : ∀ k, Hv T all S k → (done k ↔ k < q)
  lastq : q = 0 ∨ ∃ k, q = k + 1 ∧ Hv T all S k
  late : ∀ j, Al T all S j → ¬ done j → ρ (S j).2.2 = none
  fresh : ∀ i, (S q).2.2 ≤ i → i < NN → ρ i = none ∨ ∃ j, q ≤ j ∧ Al T all S j ∧ done j ∧ i = (S j).2.2
  low : ∀ i, (S q).2.2 ≤ i → (S q).2.1.get i = none
  stage : StageOk ρ (S q).2.1 σ
  size : a.tmps.size = nt
  tmp : ∀ t k, k ≤ all.length → (∀ j o, all[j]? = some o → o.dst = some t → (done j ↔ j < k)) → ∀ v, (S k).1.get t = some v → ∃ u, a.tmps[t]? = some u ∧ VRel ρ v u
  hold : ∀ i, (S 0).2.1.get i = none → ¬ ((S 0).2.2 ≤ i ∧ i < (S q).2.2) → (S q).2.1.get i = none
  ro : ∀ i m o o', ¬ ((S 0).2.2 ≤ i ∧ i < (S q).2.2) → ρ0 i = some m → (S 0).2.1.get i = some o → o.ro = true → (S q).2.1.get i = some o' → o'.ro = true

variable (X : Text P T call nt all S) (MC : MonoC call)
include X MC
/-- a heap of the text's run, ahead of the next heavy operation -/
theorem live_of {ρ0 ρ : Ren} {NN q p : Nat} {done : Nat → Prop} {σ : Stage} {a : Act} (D : DS P T call nt all S ρ0 NN done q σ ρ a) (hp : q ≤ p) (hpN : p ≤ all.length) (hn : ∀ j, q ≤ j → j < p → ¬ Hv T all S j) :
    (∀ i m o, ρ i = some m → (S p).2.1.get i = some o → Live T all S done q i o) ∧ (∀ i o, Live T all S done q i o → (S p).2.1.get i = some o ∨ (S p).2.1.get i = none) ∧ (∀ i, (S p).2.2 ≤ i → (S p).2.1.get i = none) := by
  obtain ⟨a1, a2, a3, a4⟩ := quiet_get X MC (p - q) q (by omega) (fun j h1 h2 => hn j h1 (by omega)) D.low
  rw [show q + (p - q) = p from by omega] at a1 a2 a3 a4
  refine ⟨fun i m o hi ho => ?_, fun i o hl => ?_, a1⟩
  · by_cases hiq : i < (S q).2.2
    · exact .inl ⟨hiq, by rw [← a2 i hiq]; exact ho⟩
    · obtain ⟨j, b1, b2, b3, rfl⟩ := a4 i o (by omega) ho
      refine .inr ⟨j, b1, b3, ?_, rfl, by rw [← a3 j b1 b2 b3]; exact ho⟩
      exact Classical.byContradiction fun hd => by rw [D.late j b3 hd] at hi; cases hi
  · rcases hl with ⟨h1, h2⟩ | ⟨j, b1, b2, b3, rfl, b5⟩
    · exact .inl (by rw [a2 i h1]; exact h2)
    · by_cases hj : j < p
      · exact .inl (by rw [a3 j b1 hj b2]; exact b5)
      · exact .inr (a1 _ (nmono2 X MC (by omega) (by have := b2.lt; omega)))
end
end Go.Det
namespace Go.Det
open Go.Conc

structure Pairs (P : Program) (T : Tbl) (all : List Oper) (S : Nat → St) : Prop where
  back : backOk all 0 = true
  tmps : tmpsOk (pres all []) all all 0 = true
  pair : ∀ i j oi oj, i < j → all[i]? = some oi → all[j]? = some oj → bitAt ((pres all []).getD j 0) i = false →
    may (cls T oi.op) (cls T oj.op) = some false ∨ (may (cls T oi.op) (cls T oj.op) = some true ∧ pairOk (logAt P T all S i) (logAt P T all S j) = true)

section
variable {P : Program} {T : Tbl} {call : CallA} {nt : Nat} {all : List Oper} {S : Nat → St} (X : Text P T call nt all S) (MC : MonoC call) (W : Pairs P T all S)
variable {ρ0 ρ : Ren} {NN q : Nat} {done : Nat → Prop} {σ : Stage} {a : Act} (D : DS P T call nt all S ρ0 NN done q σ ρ a)
variable {k : Nat} {o : Oper} (ho : all[k]? = some o) (nd : ¬ done k) (rdy : ∀ e ∈ o.after.toList, bindsAny e = true → done e.on)

def also (done : Nat → Prop) (k : Nat) : Nat → Prop := fun j => done j ∨ j = k

include W D ho nd rdy
theorem closed' : Closed all (also done k) := by
  intro j oj hj hd e he hbe
  rcases hd with hd | rfl
  · exact .inl (D.closed j oj hj hd e he hbe)
  · rw [ho] at hj; cases hj; exact .inl (rdy e he hbe)
theorem before {j : Nat} (h : bitAt ((pres all []).getD k 0) j = true) : j < k ∧ done j := by
  have hk := (List.getElem?_eq_some_iff.1 ho).1
  have h1 := pre_lt W.back k j hk h
  have h2 := pre_done W.back (closed' W D ho nd rdy) k j hk (.inr rfl) h
  exact ⟨h1, h2.resolve_right (by omega)⟩
theorem behind {j : Nat} (hj : j < all.length) (h : bitAt ((pres all []).getD j 0) k = true) : k < j ∧ ¬ done j :=
  ⟨pre_lt W.back j k hj h, fun hd => nd (pre_done W.back D.closed j k hj hd h)⟩
theorem ord_done {j : Nat} (hj : j < all.length) (h : ordered (pres all []) j k = true ∨ ordered (pres all []) k j = true) : done j ↔ j < k := by
  have key : j = k ∨ bitAt ((pres all []).getD k 0) j = true ∨ bitAt ((pres all []).getD j 0) k = true := by
    rcases h with h | h
    · unfold ordered at h
      rw [Bool.or_eq_true, Bool.or_eq_true] at h
      rcases h with h | h | h
      · exact .inl (Nat.eq_of_beq_eq_true h)
      · exact .inr (.inl h)
      · exact .inr (.inr h)
    · unfold ordered at h
      rw [Bool.or_eq_true, Bool.or_eq_true] at h
      rcases h with h | h | h
      · exact .inl (Nat.eq_of_beq_eq_true h).symm
      · exact .inr (.inr h)
      · exact .inr (.inl h)
  rcases key with rfl | h | h
  · exact ⟨fun h => absurd h nd, fun h => absurd h (Nat.lt_irrefl _)⟩
  · obtain ⟨h1, h2⟩ := before W D ho nd rdy h; exact ⟨fun _ => h1, fun _ => h2⟩
  · obtain ⟨h1, h2⟩ := behind W D ho nd rdy hj h; exact ⟨fun x => absurd x h2, fun x => by omega⟩
/-- two operations that may not change places -/
theorem may_done {j : Nat} {oj : Oper} (hj : all[j]? = some oj) (h1 : ∀ c, may (cls T oj.op) (cls T o.op) ≠ some c ∧ may (cls T o.op) (cls T oj.op) ≠ some c) : done j ↔ j < k := by
  have hjl := (List.getElem?_eq_some_iff.1 hj).1
  rcases Nat.lt_trichotomy j k with hlt | rfl | hgt
  · cases hb : bitAt ((pres all []).getD k 0) j with
    | true => obtain ⟨x, y⟩ := before W D ho nd rdy hb; exact ⟨fun _ => x, fun _ => y⟩
    | false => rcases W.pair j k oj o hlt hj ho hb with x | x
               · exact absurd x (h1 _).1
               · exact absurd x.1 (h1 _).1
  · exact ⟨fun h => absurd h nd, fun h => absurd h (Nat.lt_irrefl _)⟩
  · cases hb : bitAt ((pres all []).getD j 0) k with
    | true => obtain ⟨x, y⟩ := behind W D ho nd rdy hjl hb; exact ⟨fun h => absurd h y, fun h => by omega⟩
    | false => rcases W.pair k j o oj hgt ho hj hb with x | x
               · exact absurd x (h1 _).2
               · exact absurd x.1 (h1 _).2
/-- what the operation reads is there -/
theorem names_rel : TRel ρ nt (restr (S k).1 (namesOf all o)) a := by
  have hk := (List.getElem?_eq_some_iff.1 ho).1
  refine ⟨D.size, fun t v hv => ?_⟩
  obtain ⟨h1, h2⟩ := (restr_get (tm := (S k).1) (t := t) (l := namesOf all o)).2 v hv
  refine D.tmp t k (by omega) (fun j oj hj hd => ?_) v h2
  have := tmpsOk_get W.tmps j oj t hj hd k o ho (.inr h1)
  rw [Nat.zero_add] at this
  exact ord_done W D ho nd rdy (List.getElem?_eq_some_iff.1 hj).1 (.inl this)
include X
theorem tmp_put {ρ' : Ren} (hle : ρ.le ρ') {v u : Value} (hp : putA nt o.dst (S k).1 v = some (S (k + 1)).1) (hu : VRel ρ' v u) :
    ∀ t k', k' ≤ all.length → (∀ j oj, all[j]? = some oj → oj.dst = some t → (also done k j ↔ j < k')) → ∀ x, (S k').1.get t = some x → ∃ y, (a.put o.dst u).tmps[t]? = some y ∧ VRel ρ' x y := by
  have hk := (List.getElem?_eq_some_iff.1 ho).1
  intro t k' hk' hc x hx
  by_cases hd : o.dst = some t
  · have hkk : k < k' := (hc k o ho hd).1 (.inr rfl)
    have hs := tmp_steps X (t := t) (k' - (k + 1)) (k + 1) (by omega) fun j oj h1 h2 hj hdj => by
      have hjl := (List.getElem?_eq_some_iff.1 hj).1
      have e1 := (hc j oj hj hdj).2 (by omega)
      have e2 := tmpsOk_get W.tmps k o t ho hd j oj hj (.inl hdj)
      rw [Nat.zero_add] at e2
      have e3 := ord_done W D ho nd rdy hjl (.inr e2)
      rcases e1 with e1 | e1
      · have := e3.1 e1; omega
      · omega
    rw [show k + 1 + (k' - (k + 1)) = k' from by omega] at hs
    rw [hs] at hx
    rw [hd] at hp ⊢
    simp only [putA] at hp
    split at hp
    · rename_i hlt
      have hlt := lt_of_blt hlt
      have hp := (Option.some.inj hp).symm
      rw [hp, Tmps.get_cons, if_pos rfl] at hx
      cases hx
      exact ⟨u, by simp [Act.put, D.size, hlt], hu⟩
    · cases hp
  · obtain ⟨y, hy, hr⟩ := D.tmp t k' hk' (fun j oj hj hdj => by
      have hjk : j ≠ k := by rintro rfl; rw [ho] at hj; cases hj; exact hd hdj
      have := hc j oj hj hdj
      unfold also at this
      exact ⟨fun h => this.1 (.inl h), fun h => (this.2 h).resolve_right hjk⟩) x hx
    refine ⟨y, ?_, hr.mono hle⟩
    cases hdd : o.dst with
    | none => exact hy
    | some d =>
      have hdt : d ≠ t := fun h => hd (by rw [hdd, h])
      simp [Act.put, Array.getElem?_setIfInBounds_ne hdt, hy]
include MC
/-- behind an operation that is no heavy one -/
theorem DS.light {ρ' : Ren} (hle : ρ.le ρ') (hoff : ∀ i, ¬ (Al T all S k ∧ i = (S k).2.2) → ρ' i = ρ i) (hv : ¬ Hv T all S k) {v u : Value} (hp : putA nt o.dst (S k).1 v = some (S (k + 1)).1) (hu : VRel ρ' v u)
    (hob : Al T all S k → ∀ vs, (S q).2.1.get (S k).2.2 ≠ some (.pipe vs)) : DS P T call nt all S ρ0 NN (also done k) q σ ρ' (a.put o.dst u) := by
  have hk := (List.getElem?_eq_some_iff.1 ho).1
  have qN := D.qN
  have nsep : ∀ j, Al T all S j → j ≠ k → ¬ (Al T all S k ∧ (S j).2.2 = (S k).2.2) := by
    rintro j hj hjk ⟨hka, he⟩
    obtain ⟨_, _, _, _, _, _, _, _, s1, _, _⟩ := makes X hj
    obtain ⟨_, _, _, _, _, _, _, _, s2, _, _⟩ := makes X hka
    have := hj.lt
    rcases Nat.lt_or_ge j k with h | h
    · have := nmono2 X MC (show j + 1 ≤ k by omega) (by omega); omega
    · have := nmono2 X MC (show k + 1 ≤ j by omega) (by omega); omega
  refine ⟨closed' W D ho nd rdy, qN, fun j hj => ?_, D.lastq, fun j hj hd => ?_, fun i h1 h2 => ?_, D.low, ?_, ?_, tmp_put X W D ho nd rdy hle hp hu, D.hold, D.ro⟩
  · have hjk : j ≠ k := by rintro rfl; exact hv hj
    have := D.hq j hj
    unfold also
    exact ⟨fun h => this.1 (h.resolve_right hjk), fun h => .inl (this.2 h)⟩
  · have hjk : j ≠ k := fun h => hd (.inr h)
    rw [hoff _ (nsep j hj hjk)]
    exact D.late j hj fun h => hd (.inl h)
  · by_cases hi : Al T all S k ∧ i = (S k).2.2
    · refine .inr ⟨k, ?_, hi.1, .inr rfl, hi.2⟩
      rcases Nat.lt_or_ge k q with h | h
      · obtain ⟨_, _, _, _, _, _, _, _, s2, _, _⟩ := makes X hi.1
        have := nmono2 X MC (show k + 1 ≤ q by omega) qN
        omega
      · exact h
    · rw [hoff i hi]
      rcases D.fresh i h1 h2 with x | ⟨j, y1, y2, y3, y4⟩
      · exact .inl x
      · exact .inr ⟨j, y1, y2, .inl y3, y4⟩
  · have np : ∀ c vs, (S q).2.1.get c = some (.pipe vs) → ρ' c = ρ c := fun c vs hc => hoff c fun hx => hob hx.1 vs (hx.2 ▸ hc)
    match σ, D.stage with
    | none, s => exact fun c m vs hc hg => s c m vs (by rw [← np c vs hg]; exact hc) hg
    | some (b, us), ⟨c, m, h1, h2, h3, h4⟩ => exact ⟨c, m, hle _ _ h1, h2, h3, fun c' m' vs hc hg => h4 c' m' vs (by rw [← np c' vs hg]; exact hc) hg⟩
  · have := D.size
    cases o.dst <;> simp [Act.put, this]
/-- behind a heavy one -/
theorem DS.heavy {ρ' : Ren} {w w' : World} {pm pm' : Perm} {σ' : Stage} (hv : Hv T all S k) (r : Runs ρ (S k).2.1 w pm (S k).2.2 ρ' (S (k + 1)).2.1 w' pm' (S (k + 1)).2.2) (hs : StageOk ρ' (S (k + 1)).2.1 σ') {v u : Value} (hp : putA nt o.dst (S k).1 v = some (S (k + 1)).1) (hu : VRel ρ' v u)
    (hqk : q ≤ k) (hn : ∀ j, q ≤ j → j < k → ¬ Hv T all S j) (hall : ∀ j, Hv T all S j → (done j ↔ j < k)) (hl0 : ρ0.le ρ) : DS P T call nt all S ρ0 NN (also done k) (k + 1) σ' ρ' (a.put o.dst u) := by
  have hk := (List.getElem?_eq_some_iff.1 ho).1
  have hka : ¬ Al T all S k := fun h => by
    rcases hv with x | x <;> (unfold Al at h; rw [h] at x; cases x)
  have kn := nmono X MC hk
  obtain ⟨a1, a2, a3, a4⟩ := quiet_get X MC (k - q) q (by omega) (fun j h1 h2 => hn j h1 (by omega)) D.low
  rw [show q + (k - q) = k from by omega] at a1 a2 a3 a4
  have qk := nmono2 X MC hqk (by omega)
  have q0 := nmono2 X MC (Nat.zero_le q) D.qN
  have low' : ∀ i, (S (k + 1)).2.2 ≤ i → (S (k + 1)).2.1.get i = none := fun i hi => r.hold i (a1 i (by omega)) (by omega)
  refine ⟨closed' W D ho nd rdy, by omega, fun j hj => ?_, .inr ⟨k, rfl, hv⟩, fun j hj hd => ?_, fun i h1 h2 => ?_, low', hs, ?_, tmp_put X W D ho nd rdy r.le hp hu, fun i h1 h2 => ?_, fun i m o1 o2 h1 h2 h3 h4 h5 => ?_⟩
  · unfold also
    have := hall j hj
    constructor
    · rintro (h | h)
      · have := this.1 h; omega
      · omega
    · intro h
      by_cases hjk : j = k
      · exact .inr hjk
      · exact .inl (this.2 (by omega))
  · have hjk : j ≠ k := fun h => hd (.inr h)
    obtain ⟨_, _, _, _, _, _, _, _, s1, _, _⟩ := makes X hj
    have := hj.lt
    have : ¬ ((S k).2.2 ≤ (S j).2.2 ∧ (S j).2.2 < (S (k + 1)).2.2) := by
      rcases Nat.lt_or_ge j k with h | h
      · have := nmono2 X MC (show j + 1 ≤ k by omega) (by omega); omega
      · have := nmono2 X MC (show k + 1 ≤ j by omega) (by omega); omega
    rw [r.off _ this]
    exact D.late j hj fun h => hd (.inl h)
  · rw [r.off i (by omega)]
    rcases D.fresh i (by omega) h2 with x | ⟨j, y1, y2, y3, y4⟩
    · exact .inl x
    · refine .inr ⟨j, ?_, y2, .inl y3, y4⟩
      obtain ⟨_, _, _, _, _, _, _, _, s1, _, _⟩ := makes X y2
      rcases Nat.lt_trichotomy j k with h | h | h
      · have := nmono2 X MC (show j + 1 ≤ k by omega) (by omega); omega
      · exact absurd (h ▸ y2) hka
      · omega
  · have := D.size
    cases o.dst <;> simp [Act.put, this]
  · by_cases hi : i < (S (k + 1)).2.2
    · have hi0 : i < (S 0).2.2 := by omega
      refine r.hold i ?_ (by omega)
      rw [a2 i (by omega)]
      exact D.hold i h1 (by omega)
    · exact low' i (by omega)
  · by_cases hi : i < (S (k + 1)).2.2
    · have hi0 : i < (S 0).2.2 := by omega
      cases hg : (S k).2.1.get i with
      | none => rw [r.hold i hg (by omega)] at h5; cases h5
      | some o3 =>
        refine r.ro i m o3 o2 (by omega) (hl0 i m h2) hg ?_ h5
        refine D.ro i m o1 o3 (by omega) h2 h3 h4 ?_
        rw [← a2 i (by omega)]
        exact hg
    · rw [low' i (by omega)] at h5; cases h5
end
end Go.Det
namespace Go.Det
open Go.Conc

theorem want_restr {all : List Oper} {o : Oper} {g : Option (Nat × Bool)} {tm : Tmps} (hg : guardT all o = some g) : wantA g (restr tm (namesOf all o)) = wantA g tm := by
  cases g with
  | none => rfl
  | some p =>
    obtain ⟨d, w⟩ := p
    have : d ∈ namesOf all o := by unfold namesOf; rw [hg]; simp
    unfold wantA
    dsimp only
    rw [(restr_get (tm := tm) (t := d)).1 this]
theorem op_restr {P : Program} {T : Tbl} {all : List Oper} {o : Oper} {f0 : Tmps → Heap → Nat → Option AR} {tm : Tmps} (hop : opC P T o.op = .mk f0) (h : Heap) (n : Nat) : f0 (restr tm (namesOf all o)) h n = f0 tm h n := by
  refine opC_congr hop (fun x hx => ?_) h n
  cases x with
  | tmp t =>
    have : t ∈ namesOf all o := by unfold namesOf; exact List.mem_append_right _ (opdsOf_mem hx)
    show (restr tm (namesOf all o)).get t = tm.get t
    rw [(restr_get (tm := tm) (t := t)).1 this]
  | _ => rfl

section
variable {P : Program} {T : Tbl} (K : TblOk P T) {C : Ctx P} {nt : Nat}
variable {ρ0 ρ : Ren} {h0 : Heap} {w0 w : World} {pm0 pm : Perm} {n0 nN : Nat} {L L' : Nat → AObj → Prop} {σ : Stage} {a : Act}

theorem DW.rely {w₁ : World} (I : DW ρ0 h0 w0 pm0 n0 nN L ρ w pm) (r : Rely pm w w₁) : DW ρ0 h0 w0 pm0 n0 nN L ρ w₁ pm := by
  have S : Sim ρ .leaf w pm := I.sim fun i m o _ h => by cases h
  exact I.step (Runs.rely S r 0) (fun i m o _ h => by cases h) (.inl rfl) fun i m o a b => .inr ⟨a, b, rfl⟩

include K
/-- an operation that disturbs nothing, at whatever heap fits -/
theorem light_run {ops : Array Oper} {k : Nat} {rest : List Nat} {o : Oper} {b : Frame} {kk : List Item} {cs : List Frame} {f0 : Tmps → Heap → Nat → Option AR} {tmR : Tmps} {hx hx' : Heap} {nx nx' : Nat} {v : Value}
    (ho : ops[k]? = some o) (hop : opC P T o.op = .mk f0) (hw : Region.wanted o (yielded ops a.tmps) = true) (hk : b.kind ≠ .early) (R : TRel ρ nt tmR a) (e : f0 tmR hx nx = some (.val v hx' nx')) (hn : nx' = Nat.succ nx → ρ nx = none)
    (I : DW ρ0 h0 w0 pm0 n0 nN L ρ w pm) (x1 : ∀ i m o, ρ i = some m → hx.get i = some o → L i o) (x2 : nx = nx' ∨ (n0 ≤ nx ∧ nx' ≤ nN))
    (x3 : ∀ ρ' : Ren, ρ.le ρ' → (∀ i, ¬ (nx ≤ i ∧ i < nx') → ρ' i = ρ i) → ∀ i m o, ρ' i = some m → L' i o → hx'.get i = some o ∨ (ρ i = some m ∧ L i o ∧ hx.get i = none))
    (hK : ∀ ρ' pm' u w', DW ρ0 h0 w0 pm0 n0 nN L' ρ' w' pm' → ρ.le ρ' → (∀ i, ¬ (nx ≤ i ∧ i < nx') → ρ' i = ρ i) → VRel ρ' v u → C.Go σ pm' (G (b.at (a.put o.dst u) (.inRegion ops rest :: kk)) cs) w') :
    C.Go σ pm (G (b.at a (.inRegion ops (k :: rest) :: kk)) cs) w := by
  have S : Sim ρ hx w pm := I.sim x1
  refine C.val ho hw hk (v := v) (h := hx) (n := nx) (h' := hx') (n' := nx') (ρ := ρ) (fun w₁ r => ?_) fun ρ' pm' u w₁ w' r hr ef => ?_
  · have := op_rel K (S.rely r) R (ar := .val v hx' nx') (fun v' h' hv => by cases hv; exact hn rfl) hop e
    exact this
  · have rr := (Runs.rely S r nx).trans ef.runs
    exact hK ρ' pm' u w' (I.step rr x1 x2 (x3 ρ' rr.le rr.off)) rr.le rr.off hr
end

section
variable {P : Program} {T : Tbl} {call : CallA} {nt : Nat} {all : List Oper} {S : Nat → St} (X : Text P T call nt all S) (MC : MonoC call) (W : Pairs P T all S)
omit X MC W in
theorem first_heavy {q k : Nat} : (∀ j, q ≤ j → j < k → ¬ Hv T all S j) ∨ ∃ k1, q ≤ k1 ∧ k1 < k ∧ Hv T all S k1 ∧ ∀ j, q ≤ j → j < k1 → ¬ Hv T all S j := by
  induction k with
  | zero => exact .inl fun j _ h => by omega
  | succ k ih =>
    rcases ih with h | ⟨k1, h1, h2, h3, h4⟩
    · by_cases hk : q ≤ k ∧ Hv T all S k
      · exact .inr ⟨k, hk.1, by omega, hk.2, h⟩
      · refine .inl fun j h1 h2 => ?_
        by_cases hj : j = k
        · subst hj; exact fun hh => hk ⟨h1, hh⟩
        · exact h j h1 (by omega)
    · exact .inr ⟨k1, h1, by omega, h3, h4⟩
include X in
theorem log_heavy {j : Nat} (h : Hv T all S j) : logAt P T all S j = .heavy (S j).2.1 (S (j + 1)).2.1 ∧ ∃ o, all[j]? = some o ∧ (cls T o.op = .s ∨ cls T o.op = .c) := by
  have : ∃ o g, all[j]? = some o ∧ guardT all o = some g ∧ wantA g (S j).1 = some true ∧ (cls T o.op = .s ∨ cls T o.op = .c) := by
    rcases h with h | h <;> obtain ⟨o, g, a, b, c, d⟩ := kd_of h
    · exact ⟨o, g, a, b, c, .inl d⟩
    · exact ⟨o, g, a, b, c, .inr d⟩
  obtain ⟨o, g, ho, hg, hw, hc⟩ := this
  refine ⟨?_, o, ho, hc⟩
  unfold logAt
  rw [ho]
  dsimp only
  unfold ocLog
  rw [hg]
  dsimp only
  rw [hw]
  dsimp only
  unfold opLog
  rcases hc with hc | hc <;> rw [hc]
omit X MC W in
theorem may_l {c : Cls} (h : c = .s ∨ c = .c) : may .l c = some true ∧ may c .l = some true ∧ may .a c = some true ∧ may c .a = some true := by
  rcases h with rfl | rfl <;> exact ⟨rfl, rfl, rfl, rfl⟩
omit X MC W in
theorem reread_eq {f : Tmps → Heap → Nat → Option AR} {g : Tmps → Heap → Option Value} (hg : ∀ tm h n, f tm h n = valA h n (g tm h)) {tm : Tmps} {h : Heap} {v : Value} (e : reread f tm h v = true) : g tm h = some v := by
  unfold reread at e
  rw [hg] at e
  cases hx : g tm h with
  | none => rw [hx] at e; cases e
  | some u =>
    rw [hx] at e
    have e : veq u v = true := e
    rw [veq_eq e]

variable {ρ0 ρ : Ren} {NN q : Nat} {done : Nat → Prop} {σ : Stage} {a : Act} (D : DS P T call nt all S ρ0 NN done q σ ρ a)
variable {k : Nat} {o : Oper} (ho : all[k]? = some o) (nd : ¬ done k) (rdy : ∀ e ∈ o.after.toList, bindsAny e = true → done e.on)
include X MC W D ho nd rdy
/-- where a read may be made: at a state of the text's run that is the memory's now -/
theorem read_at {g : Option (Nat × Bool)} {f0 : Tmps → Heap → Nat → Option AR} {v : Value} {q0 : Tmps → Heap → Option Value} (hg : guardT all o = some g) (hw : wantA g (S k).1 = some true) (hc : cls T o.op = .l) (hop : opC P T o.op = .mk f0)
    (hq : ∀ tm h n, f0 tm h n = valA h n (q0 tm h)) (hv : q0 (S k).1 (S k).2.1 = some v) : ∃ p, q ≤ p ∧ p ≤ all.length ∧ (∀ j, q ≤ j → j < p → ¬ Hv T all S j) ∧ q0 (S k).1 (S p).2.1 = some v := by
  have hk := (List.getElem?_eq_some_iff.1 ho).1
  have lg : logAt P T all S k = .read f0 (S k).1 v := by
    unfold logAt
    rw [ho]
    dsimp only
    unfold ocLog
    rw [hg]
    dsimp only
    rw [hw]
    dsimp only
    unfold opLog
    rw [hc]
    dsimp only
    rw [hop]
    dsimp only
    rw [hq, hv]
    rfl
  rcases Nat.lt_or_ge k q with hkq | hkq
  · refine ⟨q, Nat.le_refl _, D.qN, fun j h1 h2 => by omega, ?_⟩
    rcases D.lastq with h | ⟨j, rfl, hj⟩
    · omega
    · have dj : done j := (D.hq j hj).2 (by omega)
      have hjl := hj.lt
      have hkj : k < j := by
        rcases Nat.lt_or_ge k j with h | h
        · exact h
        · exact absurd (show done k from (show k = j by omega) ▸ dj) nd
      obtain ⟨lj, oj, hoj, hcj⟩ := log_heavy X hj
      have hb : bitAt ((pres all []).getD j 0) k = false := by
        cases hb : bitAt ((pres all []).getD j 0) k with
        | false => rfl
        | true => exact absurd dj (behind W D ho nd rdy hjl hb).2
      have hm := may_l hcj
      rcases W.pair k j o oj hkj ho hoj hb with x | ⟨_, x⟩
      · rw [hc, hm.1] at x; cases x
      · rw [lg, lj] at x
        exact reread_eq hq x
  · rcases first_heavy (T := T) (all := all) (S := S) (q := q) (k := k) with h | ⟨k1, h1, h2, h3, h4⟩
    · exact ⟨k, hkq, by omega, h, hv⟩
    · refine ⟨k1, h1, by omega, h4, ?_⟩
      have dk1 : ¬ done k1 := fun h => by have := (D.hq k1 h3).1 h; omega
      obtain ⟨lj, oj, hoj, hcj⟩ := log_heavy X h3
      have hb : bitAt ((pres all []).getD k 0) k1 = false := by
        cases hb : bitAt ((pres all []).getD k 0) k1 with
        | false => rfl
        | true => exact absurd (before W D ho nd rdy hb).2 dk1
      have hm := may_l hcj
      rcases W.pair k1 k oj o h2 hoj ho hb with x | ⟨_, x⟩
      · rw [hc, hm.2.1] at x; cases x
      · rw [lg, lj] at x
        exact reread_eq hq x
/-- a block that is laid late has not been turned -/
theorem made_late {g : Option (Nat × Bool)} {ob : AObj} (hg : guardT all o = some g) (hw : wantA g (S k).1 = some true) (hc : cls T o.op = .a) (hput : (S (k + 1)).2.1.get (S k).2.2 = some ob) (hkq : k < q) : (S q).2.1.get (S k).2.2 = some ob := by
  have lg : logAt P T all S k = .alloc (S k).2.2 ob := by
    unfold logAt
    rw [ho]
    dsimp only
    unfold ocLog
    rw [hg]
    dsimp only
    rw [hw]
    dsimp only
    unfold opLog
    rw [hc]
    dsimp only
    rw [hput]
  rcases D.lastq with h | ⟨j, rfl, hj⟩
  · omega
  · have dj : done j := (D.hq j hj).2 (by omega)
    have hjl := hj.lt
    have hkj : k < j := by
      rcases Nat.lt_or_ge k j with h | h
      · exact h
      · exact absurd (show done k from (show k = j by omega) ▸ dj) nd
    obtain ⟨lj, oj, hoj, hcj⟩ := log_heavy X hj
    have hb : bitAt ((pres all []).getD j 0) k = false := by
      cases hb : bitAt ((pres all []).getD j 0) k with
      | false => rfl
      | true => exact absurd dj (behind W D ho nd rdy hjl hb).2
    have hm := may_l hcj
    rcases W.pair k j o oj hkj ho hoj hb with x | ⟨_, x⟩
    · rw [hc, hm.2.2.1] at x; cases x
    · rw [lg, lj] at x
      unfold pairOk at x
      dsimp only at x
      split at x
      · rename_i o' he; rw [aeq_eq x]; exact he
      · cases x
end
end Go.Det
namespace Go.Det
open Go.Conc

section
variable {P : Program} {T : Tbl} (K : TblOk P T) {C : Ctx P} {call : CallA} {nt : Nat} {ops : Array Oper} {S : Nat → St} (X : Text P T call nt ops.toList S) (MC : MonoC call) (W : Pairs P T ops.toList S) (CO : CallOk C call) (RO : RecvOk T C)
include K X MC W CO RO
/-- one operation of a region that draws, whenever it comes up -/
theorem exec {ρ0 ρ : Ren} {NN q : Nat} {done : Nat → Prop} {σ : Stage} {a : Act} {w0 w : World} {pm0 pm : Perm} (hpm0 : PmOk pm0 w0) (hNN : (S ops.toList.length).2.2 ≤ NN)
    (D : DS P T call nt ops.toList S ρ0 NN done q σ ρ a) (I : DW ρ0 (S 0).2.1 w0 pm0 (S 0).2.2 (S ops.toList.length).2.2 (Live T ops.toList S done q) ρ w pm)
    {k : Nat} {o : Oper} (ho : ops.toList[k]? = some o) (nd : ¬ done k) (rdy : ∀ e ∈ o.after.toList, bindsAny e = true → done e.on) {b : Frame} {kk : List Item} {cs : List Frame} {rest : List Nat} (hk : b.kind ≠ .early)
    (hK : ∀ q' σ' ρ' pm' w' a', DS P T call nt ops.toList S ρ0 NN (also done k) q' σ' ρ' a' → DW ρ0 (S 0).2.1 w0 pm0 (S 0).2.2 (S ops.toList.length).2.2 (Live T ops.toList S (also done k) q') ρ' w' pm' → a'.defers = a.defers →
      C.Go σ' pm' (G (b.at a' (.inRegion ops rest :: kk)) cs) w') :
    C.Go σ pm (G (b.at a (.inRegion ops (k :: rest) :: kk)) cs) w := by
  have ho' : ops[k]? = some o := by rw [← Array.getElem?_toList]; exact ho
  have hkl := (List.getElem?_eq_some_iff.1 ho).1
  have R := names_rel W D ho nd rdy
  have pd : ∀ u, (a.put o.dst u).defers = a.defers := fun u => by cases o.dst <;> rfl
  have live_also : ¬ Al T ops.toList S k → ∀ i x, Live T ops.toList S (also done k) q i x → Live T ops.toList S done q i x := by
    rintro hna i x (h | ⟨j, h1, h2, h3, h4⟩)
    · exact .inl h
    · refine .inr ⟨j, h1, h2, h3.resolve_right ?_, h4⟩
      rintro rfl
      exact hna h2
  have d := X.step k o ho
  cases d with
  | skip hg hw hh hn hp =>
    have hkd := kd_none (T := T) ho hg hw
    have nhv : ¬ Hv T ops.toList S k := by rintro (h | h) <;> (rw [hkd] at h; cases h)
    have nal : ¬ Al T ops.toList S k := fun h => by unfold Al at h; rw [hkd] at h; cases h
    have hwant : Region.wanted o (yielded ops a.tmps) = false := guard_rel R hg (by rw [want_restr hg]; exact hw)
    refine C.unwanted ho' hwant fun w₁ r => ?_
    have D' := DS.light X MC W D ho nd rdy (ρ' := ρ) (fun _ _ h => h) (fun i _ => rfl) nhv (u := undef) hp (.tuple rfl VRels.nil.get) (fun h => absurd h nal)
    have I1 := I.rely r
    have Sm : Sim ρ .leaf w₁ pm := I1.sim fun i m o _ h => by cases h
    exact hK q σ ρ pm w₁ _ D' (I1.step (Runs.rely Sm (Rely.refl _ _) 0) (fun i m o _ h => by cases h) (.inl rfl) fun i m x h1 h2 => .inr ⟨h1, live_also nal i x h2, rfl⟩) (pd _)
  | run hg hw hop hu hp =>
    rename_i g f0 v
    have hkd := kd_eq (T := T) ho hg hw
    have hwant : Region.wanted o (yielded ops a.tmps) = true := guard_rel R hg (by rw [want_restr hg]; exact hw)
    cases hc : cls T o.op with
    | p =>
      have nhv : ¬ Hv T ops.toList S k := by rintro (h | h) <;> (rw [hkd, hc] at h; cases h)
      have nal : ¬ Al T ops.toList S k := fun h => by unfold Al at h; rw [hkd, hc] at h; cases h
      obtain ⟨g0, hg0⟩ := cls_p hc hop
      have hv : g0 (S k).1 = some v := by
        rw [hg0] at hu
        cases hx : g0 (S k).1 with
        | none => rw [hx] at hu; cases hu
        | some y =>
          rw [hx] at hu
          have hu : some (y, (S k).2.1, (S k).2.2) = some (v, (S (k+1)).2.1, (S (k+1)).2.2) := hu
          simp only [Option.some.injEq, Prod.mk.injEq] at hu
          rw [hu.1]
      have e : f0 (restr (S k).1 (namesOf ops.toList o)) .leaf 0 = some (.val v .leaf 0) := by
        rw [op_restr hop, hg0, hv]; rfl
      refine light_run K ho' hop hwant hk R e (fun h => by cases h) I (fun i m x _ h => by cases h) (.inl rfl) (L' := Live T ops.toList S (also done k) q) (fun ρ' hle hoff i m x h1 h2 => ?_) fun ρ' pm' u w' I' hle hoff hr => ?_
      · rw [hoff i (by omega)] at h1
        exact .inr ⟨h1, live_also nal i x h2, rfl⟩
      · exact hK q σ ρ' pm' w' _ (DS.light X MC W D ho nd rdy hle (fun i _ => hoff i (by omega)) nhv hp hr fun h => absurd h nal) I' (pd _)
    | l =>
      have nhv : ¬ Hv T ops.toList S k := by rintro (h | h) <;> (rw [hkd, hc] at h; cases h)
      have nal : ¬ Al T ops.toList S k := fun h => by unfold Al at h; rw [hkd, hc] at h; cases h
      obtain ⟨g0, hg0⟩ := cls_l hc hop
      have hv : g0 (S k).1 (S k).2.1 = some v := by
        rw [hg0] at hu
        cases hx : g0 (S k).1 (S k).2.1 with
        | none => rw [hx] at hu; cases hu
        | some y =>
          rw [hx] at hu
          have hu : some (y, (S k).2.1, (S k).2.2) = some (v, (S (k+1)).2.1, (S (k+1)).2.2) := hu
          simp only [Option.some.injEq, Prod.mk.injEq] at hu
          rw [hu.1]
      obtain ⟨p, p1, p2, p3, p4⟩ := read_at X MC W D ho nd rdy hg hw hc hop hg0 hv
      obtain ⟨l1, l2, l3⟩ := live_of X MC D p1 p2 p3
      have e : f0 (restr (S k).1 (namesOf ops.toList o)) (S p).2.1 0 = some (.val v (S p).2.1 0) := by
        rw [op_restr hop, hg0, p4]; rfl
      refine light_run K ho' hop hwant hk R e (fun h => by cases h) I l1 (.inl rfl) (L' := Live T ops.toList S (also done k) q) (fun ρ' hle hoff i m x h1 h2 => ?_) fun ρ' pm' u w' I' hle hoff hr => ?_
      · rw [hoff i (by omega)] at h1
        have h2 := live_also nal i x h2
        exact (l2 i x h2).imp id fun h => ⟨h1, h2, h⟩
      · exact hK q σ ρ' pm' w' _ (DS.light X MC W D ho nd rdy hle (fun i _ => hoff i (by omega)) nhv hp hr fun h => absurd h nal) I' (pd _)
    | a =>
      have nhv : ¬ Hv T ops.toList S k := by rintro (h | h) <;> (rw [hkd, hc] at h; cases h)
      have al : Al T ops.toList S k := by unfold Al; rw [hkd, hc]
      obtain ⟨o1, f1, ob, pv, m1, m2, m3, m4, m5, m6, m7⟩ := makes X al
      rw [ho] at m1; cases m1
      rw [hop] at m2; cases m2
      have hpv : v = pv (S k).2.2 := by
        rw [m3] at hu
        unfold newA at hu
        rw [m4] at hu
        dsimp only at hu
        rw [nat!_eq] at hu
        have hu : some (pv (S k).2.2, (S (k+1)).2.1, Nat.succ (S k).2.2) = some (v, (S (k+1)).2.1, (S (k+1)).2.2) := hu
        simp only [Option.some.injEq, Prod.mk.injEq] at hu
        exact hu.1.symm
      subst hpv
      obtain ⟨hl, hhl⟩ := hput_leaf m4
      have e : f0 (restr (S k).1 (namesOf ops.toList o)) .leaf (S k).2.2 = some (.val (pv (S k).2.2) hl (Nat.succ (S k).2.2)) := by
        rw [op_restr hop, m3]
        unfold newA
        rw [hhl]
        dsimp only
        rw [nat!_eq]
      have hget : (S (k + 1)).2.1.get (S k).2.2 = some ob := by rw [hput_get m4, if_pos rfl]
      have hlget : Tr.get hl (S k).2.2 = some ob := by rw [hput_get hhl, if_pos rfl]
      have nsep : ∀ j, Al T ops.toList S j → (S j).2.2 = (S k).2.2 → j = k := by
        intro j hj he
        obtain ⟨_, _, _, _, _, _, _, _, s1, _, _⟩ := makes X hj
        have := hj.lt
        rcases Nat.lt_trichotomy j k with h | h | h
        · have := nmono2 X MC (show j + 1 ≤ k by omega) (by omega); omega
        · exact h
        · have := nmono2 X MC (show k + 1 ≤ j by omega) (by omega); omega
      have late : k < q → (S q).2.1.get (S k).2.2 = some ob := made_late X MC W D ho nd rdy hg hw hc hget
      have n0 : (S 0).2.2 ≤ (S k).2.2 := nmono2 X MC (Nat.zero_le _) (by omega)
      have nN : (S (k + 1)).2.2 ≤ (S ops.toList.length).2.2 := nmono2 X MC (by omega) (Nat.le_refl _)
      refine light_run K ho' hop hwant hk R e (fun _ => D.late k al nd) I (fun i m x _ h => by cases h) (.inr ⟨n0, by omega⟩) (L' := Live T ops.toList S (also done k) q) (fun ρ' hle hoff i m x h1 h2 => ?_) fun ρ' pm' u w' I' hle hoff hr => ?_
      · by_cases hi : i = (S k).2.2
        · subst hi
          rw [hlget]
          rcases h2 with ⟨y1, y2⟩ | ⟨j, y1, y2, y3, y4, y5⟩
          · have hkq : k < q := by
              rcases Nat.lt_or_ge k q with h | h
              · exact h
              · have := nmono2 X MC h (by omega); omega
            rw [late hkq] at y2
            exact .inl y2
          · obtain rfl := nsep j y2 y4.symm
            rw [hget] at y5
            exact .inl y5
        · rw [hoff i (by omega)] at h1
          refine .inr ⟨h1, ?_, rfl⟩
          rcases h2 with y | ⟨j, y1, y2, y3, y4, y5⟩
          · exact .inl y
          · refine .inr ⟨j, y1, y2, y3.resolve_right ?_, y4, y5⟩
            rintro rfl
            exact hi y4
      · refine hK q σ ρ' pm' w' _ (DS.light X MC W D ho nd rdy hle (fun i hi => hoff i fun h => hi ⟨al, by omega⟩) nhv hp hr fun _ vs hvs => ?_) I' (pd _)
        rcases Nat.lt_or_ge k q with h | h
        · rw [late h] at hvs; cases hvs; exact m6 vs rfl
        · have := D.low (S k).2.2 (nmono2 X MC h (by omega))
          rw [this] at hvs; cases hvs
    | _ =>
      have hv : Hv T ops.toList S k := by unfold Hv; rw [hkd, hc]; simp
      have hcc : cls T o.op = .s ∨ cls T o.op = .c := by rw [hc]; simp
      have hall : ∀ j, Hv T ops.toList S j → (done j ↔ j < k) := by
        intro j hj
        obtain ⟨_, oj, hoj, hcj⟩ := log_heavy X hj
        refine may_done W D ho nd rdy hoj fun c => ?_
        rcases hcj with h | h <;> rcases hcc with h' | h' <;> rw [h, h'] <;> exact ⟨by simp [may], by simp [may]⟩
      have hqk : q ≤ k := by
        rcases Nat.lt_or_ge k q with h | h
        · exact absurd ((D.hq k hv).2 h) nd
        · exact h
      have hn : ∀ j, q ≤ j → j < k → ¬ Hv T ops.toList S j := fun j h1 h2 h3 => by
        have := (D.hq j h3).1 ((hall j h3).2 h2); omega
      obtain ⟨l1, l2, l3⟩ := live_of X MC D hqk (by omega) hn
      have kn := nmono X MC hkl
      have nN : (S (k + 1)).2.2 ≤ (S ops.toList.length).2.2 := nmono2 X MC (by omega) (Nat.le_refl _)
      have n0 : (S 0).2.2 ≤ (S k).2.2 := nmono2 X MC (Nat.zero_le _) (by omega)
      have qn := nmono2 X MC hqk (by omega)
      have nka : ¬ Al T ops.toList S k := fun h => by unfold Al at h; rw [hkd, hc] at h; cases h
      obtain ⟨a1, a2, a3, a4⟩ := quiet_get X MC (k - q) q (by omega) (fun j h1 h2 => hn j h1 (by omega)) D.low
      rw [show q + (k - q) = k from by omega] at a1 a2 a3 a4
      have A : At P C σ ρ (S k).2.1 w pm (S k).2.2 (S (k + 1)).2.2 := by
        refine ⟨I.sim l1, fun i h1 h2 => ?_, l3, ⟨fun c hc => (I.rd' c hc).elim (fun x => Nat.lt_of_lt_of_le (hpm0.rd c x) I.size) (·.2), fun c hc => (I.wr c hc).elim (fun x => Nat.lt_of_lt_of_le (hpm0.wr c x) I.size) (·.2)⟩, ?_⟩
        · rcases D.fresh i (by omega) (by omega) with x | ⟨j, y1, y2, y3, rfl⟩
          · exact x
          · obtain ⟨_, _, _, _, _, _, _, _, s1, _, _⟩ := makes X y2
            have := y2.lt
            rcases Nat.lt_trichotomy j k with h | h | h
            · have := nmono2 X MC (show j + 1 ≤ k by omega) (by omega); omega
            · exact absurd (h ▸ y2) nka
            · have := nmono2 X MC (show k + 1 ≤ j by omega) (by omega); omega
        · have np : ∀ c vs, (S k).2.1.get c = some (.pipe vs) → (S q).2.1.get c = some (.pipe vs) := by
            intro c vs hcv
            by_cases hi : c < (S q).2.2
            · rw [← a2 c hi]; exact hcv
            · obtain ⟨j, b1, b2, b3, rfl⟩ := a4 c _ (by omega) hcv
              rw [a3 j b1 b2 b3] at hcv
              obtain ⟨_, _, ob, _, _, _, _, s0, s1, s2, _⟩ := makes X b3
              rw [hput_get s0, if_pos rfl] at hcv
              cases hcv
              exact absurd rfl (s2 vs)
          match σ, D.stage with
          | none, s => exact fun c m vs hc hg => s c m vs hc (np c vs hg)
          | some (b, us), ⟨c, m, h1, h2, h3, h4⟩ =>
            have hcq : c < (S q).2.2 := by
              rcases Nat.lt_or_ge c (S q).2.2 with h | h
              · exact h
              · rw [D.low c h] at h3; cases h3
            exact ⟨c, m, h1, h2, by rw [a2 c hcq]; exact h3, fun c' m' vs hc hg => h4 c' m' vs hc (np c' vs hg)⟩
      have hu' : uponA call (S k).2.1 (S k).2.2 (f0 (restr (S k).1 (namesOf ops.toList o)) (S k).2.1 (S k).2.2) = some (v, (S (k + 1)).2.1, (S (k + 1)).2.2) := by rw [op_restr hop]; exact hu
      refine one_run K CO RO ho' hop hu' A (Nat.le_refl _) R hk hwant fun σ' ρ' pm' w' u r s hr => ?_
      refine hK (k + 1) σ' ρ' pm' w' _ (DS.heavy X MC W D ho nd rdy hv r s hp hr hqk hn hall I.le) (I.step r l1 (.inr ⟨n0, nN⟩) fun i m x h1 h2 => ?_) (pd _)
      rcases h2 with ⟨y1, y2⟩ | ⟨j, y1, y2, y3, y4, y5⟩
      · exact .inl y2
      · have hjk : j ≠ k := by omega
        have := nmono2 X MC (show k + 1 ≤ j by omega) (by have := y2.lt; omega)
        rw [r.off i (by omega)] at h1
        exact .inr ⟨h1, .inr ⟨j, by omega, y2, y3.resolve_right hjk, y4, y5⟩, l3 i (by omega)⟩
end
end Go.Det
namespace Go.Det
open Go.Conc

def dn (listed : Array Bool) (i : Nat) : Prop := listed.getD i false = true
theorem dn_set {listed : Array Bool} {k : Nat} (hk : k < listed.size) : also (dn listed) k = dn (listed.setIfInBounds k true) := by
  funext j
  apply propext
  unfold also dn
  simp only [Array.getD_eq_getD_getElem?]
  by_cases h : k = j
  · subst h; simp [hk]
  · rw [Array.getElem?_setIfInBounds_ne h]
    exact ⟨fun x => x.resolve_right (Ne.symm h), .inl⟩
theorem binds_any (e : Edge) : Region.binds .any e = bindsAny e := by
  unfold Region.binds bindsAny
  split <;> first | rfl | (split <;> first | rfl | simp_all)
def cnt (n : Nat) (listed : Array Bool) : Nat := (List.range n).countP fun i => !listed.getD i false
theorem countP_drop {p q : Nat → Bool} {k : Nat} : ∀ {l : List Nat}, l.Nodup → k ∈ l → p k = true → q k = false → (∀ j, j ≠ k → q j = p j) → l.countP q + 1 = l.countP p
  | [], _, h, _, _, _ => by simp at h
  | x :: l, hn, h, hp, hq, ho => by
    rw [List.nodup_cons] at hn
    by_cases hx : x = k
    · subst hx
      have : l.countP q = l.countP p := List.countP_congr fun j hj => by rw [ho j (fun e => hn.1 (e ▸ hj))]
      simp [List.countP_cons, hp, hq, this]
    · have := countP_drop hn.2 ((List.mem_cons.1 h).resolve_left (Ne.symm hx)) hp hq ho
      simp only [List.countP_cons, ho x hx]
      omega
theorem cnt_set {n : Nat} {listed : Array Bool} {k : Nat} (hk : k < n) (hs : listed.size = n) (h : listed.getD k false = false) : cnt n (listed.setIfInBounds k true) + 1 = cnt n listed := by
  unfold cnt
  refine countP_drop (k := k) List.nodup_range (List.mem_range.2 hk) (by rw [h]; rfl) ?_ fun j hj => ?_
  · simp [Array.getD_eq_getD_getElem?, hs, hk]
  · rw [Array.getD_eq_getD_getElem?, Array.getD_eq_getD_getElem?, Array.getElem?_setIfInBounds_ne (Ne.symm hj)]

section
variable {P : Program} {T : Tbl} (K : TblOk P T) {C : Ctx P} {call : CallA} {nt : Nat} {ops : Array Oper} {S : Nat → St} (X : Text P T call nt ops.toList S) (MC : MonoC call) (W : Pairs P T ops.toList S) (CO : CallOk C call) (RO : RecvOk T C)

include X MC in
/-- all has been done -/
theorem all_done {ρ0 ρ : Ren} {NN q : Nat} {done : Nat → Prop} {σ : Stage} {a : Act} {w0 w : World} {pm0 pm : Perm}
    (D : DS P T call nt ops.toList S ρ0 NN done q σ ρ a) (I : DW ρ0 (S 0).2.1 w0 pm0 (S 0).2.2 (S ops.toList.length).2.2 (Live T ops.toList S done q) ρ w pm) (hd : ∀ j, j < ops.toList.length → done j) :
    Runs ρ0 (S 0).2.1 w0 pm0 (S 0).2.2 ρ (S ops.toList.length).2.1 w pm (S ops.toList.length).2.2 ∧ StageOk ρ (S ops.toList.length).2.1 σ ∧ TRel ρ nt (S ops.toList.length).1 a := by
  have hn : ∀ j, q ≤ j → j < ops.toList.length → ¬ Hv T ops.toList S j := fun j h1 h2 h3 => by
    have := (D.hq j h3).1 (hd j h2); omega
  obtain ⟨l1, l2, l3⟩ := live_of X MC D D.qN (Nat.le_refl _) hn
  have qN := D.qN
  obtain ⟨a1, a2, a3, a4⟩ := quiet_get X MC (ops.toList.length - q) q (by omega) (fun j h1 h2 => hn j h1 (by omega)) D.low
  rw [show q + (ops.toList.length - q) = ops.toList.length from by omega] at a1 a2 a3 a4
  have q0 := nmono2 X MC (Nat.zero_le q) qN
  have q1 := nmono2 X MC qN (Nat.le_refl _)
  have np : ∀ c vs, (S ops.toList.length).2.1.get c = some (.pipe vs) → (S q).2.1.get c = some (.pipe vs) := by
    intro c vs hcv
    by_cases hi : c < (S q).2.2
    · rw [← a2 c hi]; exact hcv
    · obtain ⟨j, b1, b2, b3, rfl⟩ := a4 c _ (by omega) hcv
      rw [a3 j b1 b2 b3] at hcv
      obtain ⟨_, _, ob, _, _, _, _, s0, s1, s2, _⟩ := makes X b3
      rw [hput_get s0, if_pos rfl] at hcv
      cases hcv
      exact absurd rfl (s2 vs)
  refine ⟨⟨I.le, I.off, I.sim l1, I.size, I.rd, I.rd', I.wr, I.world, I.old, fun b hb hr hf => I.frame b hb hr fun ⟨j, m, o, y1, y2, y3, y4⟩ => hf j m o y1 y2 y3 y4, fun i m h1 h2 h3 => ?_, fun i h1 h2 => ?_, by omega, fun i m o o' h1 h2 h3 h4 h5 => ?_, fun b hb hw hf => I.kwr b hb hw fun ⟨j, m, o, y1, y2, y4⟩ => hf j m o y1 y2 y4⟩, ?_, D.size, fun t v hv => ?_⟩
  · exact (I.imgs i m h1 h2 h3).imp id fun ⟨j, m0, o, y1, y2, y3, y4⟩ => ⟨j, m0, o, y1, y2, y3, y4⟩
  · by_cases hi : i < (S q).2.2
    · rw [a2 i hi]; exact D.hold i h1 (by omega)
    · exact a1 i (by omega)
  · by_cases hi : i < (S q).2.2
    · rw [a2 i hi] at h5; exact D.ro i m o o' (by omega) h2 h3 h4 h5
    · rw [a1 i (by omega)] at h5; cases h5
  · match σ, D.stage with
    | none, s => exact fun c m vs hc hg => s c m vs hc (np c vs hg)
    | some (b, us), ⟨c, m, h1, h2, h3, h4⟩ =>
      have hcq : c < (S q).2.2 := by
        rcases Nat.lt_or_ge c (S q).2.2 with h | h
        · exact h
        · rw [D.low c h] at h3; cases h3
      exact ⟨c, m, h1, h2, by rw [a2 c hcq]; exact h3, fun c' m' vs hc hg => h4 c' m' vs hc (np c' vs hg)⟩
  · refine D.tmp t _ (Nat.le_refl _) (fun j o hj _ => ?_) v hv
    have := (List.getElem?_eq_some_iff.1 hj).1
    exact ⟨fun _ => this, fun _ => hd j this⟩

include K X MC W CO RO
theorem draw_go {ρ0 : Ren} {NN : Nat} {w0 : World} {pm0 : Perm} (hpm0 : PmOk pm0 w0) (hNN : (S ops.toList.length).2.2 ≤ NN) {b : Frame} {kk : List Item} {cs : List Frame} (hk : b.kind ≠ .early) {d0 : List Deferred}
    (hK : ∀ σ' ρ' pm' w' a', Runs ρ0 (S 0).2.1 w0 pm0 (S 0).2.2 ρ' (S ops.toList.length).2.1 w' pm' (S ops.toList.length).2.2 → StageOk ρ' (S ops.toList.length).2.1 σ' → TRel ρ' nt (S ops.toList.length).1 a' → a'.defers = d0 → C.Go σ' pm' (G (b.at a' kk) cs) w') :
    ∀ (fuel t : Nat) (listed : Array Bool) {ρ : Ren} {q : Nat} {σ : Stage} {a : Act} {w : World} {pm : Perm}, listed.size = ops.size → cnt ops.size listed ≤ fuel → DS P T call nt ops.toList S ρ0 NN (dn listed) q σ ρ a →
      DW ρ0 (S 0).2.1 w0 pm0 (S 0).2.2 (S ops.toList.length).2.2 (Live T ops.toList S (dn listed) q) ρ w pm → a.defers = d0 →
      C.Go σ pm (G (b.at a (.inRegion ops (Region.linearise.go .any ops fuel t listed []) :: kk)) cs) w := by
  -- the end
  have fin : ∀ (listed : Array Bool) {ρ : Ren} {q : Nat} {σ : Stage} {a : Act} {w : World} {pm : Perm}, (∀ j, j < ops.toList.length → dn listed j) → DS P T call nt ops.toList S ρ0 NN (dn listed) q σ ρ a →
      DW ρ0 (S 0).2.1 w0 pm0 (S 0).2.2 (S ops.toList.length).2.2 (Live T ops.toList S (dn listed) q) ρ w pm → a.defers = d0 → C.Go σ pm (G (b.at a (.inRegion ops [] :: kk)) cs) w := by
    intro listed ρ q σ a w pm hd D I hdf
    refine C.ctl rfl (fun w => stepG_region_end) fun w₁ r => ?_
    obtain ⟨r1, r2, r3⟩ := all_done X MC D (I.rely r) hd
    exact hK σ ρ pm w₁ a r1 r2 r3 hdf
  intro fuel
  induction fuel with
  | zero =>
    intro t listed ρ q σ a w pm hs hc D I hdf
    simp only [Region.linearise.go, List.reverse_nil]
    refine fin listed (fun j hj => ?_) D I hdf
    have : cnt ops.size listed = 0 := by omega
    unfold cnt at this
    rw [List.countP_eq_zero] at this
    have := this j (List.mem_range.2 (by simpa using hj))
    unfold dn
    simpa using this
  | succ fuel ih =>
    intro t listed ρ q σ a w pm hs hc D I hdf
    simp only [Region.linearise.go]
    change C.Go σ pm (G (b.at a (.inRegion ops (match (Region.ready .any ops listed)[t % (Region.ready .any ops listed).length]? with
      | some i => Region.linearise.go .any ops fuel (t / (Region.ready .any ops listed).length) (listed.setIfInBounds i true) [i]
      | none => [].reverse) :: kk)) cs) w
    have gd : ∀ i, i < ops.size → listed.getD i true = listed.getD i false := fun i hi => by
      rw [Array.getD_eq_getD_getElem?, Array.getD_eq_getD_getElem?, Array.getElem?_eq_getElem (by omega)]; rfl
    cases hi : (Region.ready .any ops listed)[t % (Region.ready .any ops listed).length]? with
    | none =>
      have hnil : Region.ready .any ops listed = [] := by
        cases hr : Region.ready .any ops listed with
        | nil => rfl
        | cons x xs =>
          rw [hr] at hi
          have hlt : t % (x :: xs).length < (x :: xs).length := Nat.mod_lt _ (by simp)
          simp at hi
          simp at hlt
          omega
      refine fin listed (fun j => ?_) D I hdf
      induction j using Nat.strongRecOn with
      | _ j jh =>
        intro hj
        refine Classical.byContradiction fun hnd => ?_
        have hj' : j < ops.size := by simpa using hj
        have : j ∈ Region.ready .any ops listed := by
          unfold Region.ready
          rw [List.mem_filter]
          refine ⟨List.mem_range.2 hj', ?_⟩
          rw [gd j hj']
          have h1 : listed.getD j false = false := by
            cases h : listed.getD j false with
            | false => rfl
            | true => exact absurd h hnd
          rw [h1, Array.getElem?_eq_getElem hj']
          simp only [Option.map_some, Option.getD_some, Bool.not_false, Bool.true_and]
          rw [Array.all_eq_true_iff_forall_mem]
          intro e he
          rw [binds_any]
          cases hb : bindsAny e with
          | false => rfl
          | true =>
            have ho := List.getElem?_eq_getElem hj
            have hlt := backOk_get ops.toList 0 j _ W.back ho e (by simpa using he) hb
            rw [Nat.zero_add] at hlt
            have := jh e.on hlt (by omega)
            unfold dn at this
            rw [this]; rfl
        rw [hnil] at this
        cases this
    | some i =>
      dsimp only
      rw [linearise_go_acc, List.reverse_singleton, List.singleton_append]
      have hm := List.mem_of_getElem? hi
      unfold Region.ready at hm
      rw [List.mem_filter] at hm
      obtain ⟨hr, hm⟩ := hm
      have hi' : i < ops.size := List.mem_range.1 hr
      rw [gd i hi', Bool.and_eq_true, Array.getElem?_eq_getElem hi'] at hm
      obtain ⟨h1, h2⟩ := hm
      have h1 : listed.getD i false = false := by simpa using h1
      simp only [Option.map_some, Option.getD_some] at h2
      rw [Array.all_eq_true_iff_forall_mem] at h2
      have ho : ops.toList[i]? = some ops[i] := by rw [Array.getElem?_toList]; exact Array.getElem?_eq_getElem hi'
      refine exec K X MC W CO RO hpm0 hNN D I ho (fun h => by unfold dn at h; rw [h1] at h; cases h) (fun e he hb => ?_) hk fun q' σ' ρ' pm' w' a' D' I' hd => ?_
      · have := h2 e (by simpa using he)
        rw [binds_any, hb] at this
        simpa [dn] using this
      · rw [dn_set (by omega)] at D' I'
        exact ih _ _ (by simp [hs]) (by have := cnt_set hi' hs h1; omega) D' I' (hd.trans hdf)
end

section
variable {P : Program} {T : Tbl} (K : TblOk P T) {C : Ctx P} {call : CallA} (MC : MonoC call) (CO : CallOk C call) (RO : RecvOk T C) (hmix : P.follows .mixedOrders = true)
include K MC CO RO hmix
/-- a region that draws its order -/
theorem region_draw {nt id : Nat} {ops : Array Oper} {b : Frame} {k : List Item} {cs : List Frame} (hk : b.kind ≠ .early) {S : Nat → St} (X : Text P T call nt ops.toList S) (W : Pairs P T ops.toList S)
    {σ : Stage} {ρ : Ren} {pm : Perm} {w : World} {a : Act} {N : Nat} (A : At P C σ ρ (S 0).2.1 w pm (S 0).2.2 N) (hN : (S ops.toList.length).2.2 ≤ N) (R : TRel ρ nt (S 0).1 a)
    (hK : ∀ σ' ρ' pm' w' a', Runs ρ (S 0).2.1 w pm (S 0).2.2 ρ' (S ops.toList.length).2.1 w' pm' (S ops.toList.length).2.2 → StageOk ρ' (S ops.toList.length).2.1 σ' → TRel ρ' nt (S ops.toList.length).1 a' → a'.defers = a.defers → C.Go σ' pm' (G (b.at a' k) cs) w') :
    C.Go σ pm (G (b.at a (.code (.region id ops true) :: k)) cs) w := by
  refine C.step rfl fun w₁ r => ?_
  refine ⟨_, _, #[], pm, stepG_region_draw, ⟨Nat.le_refl _, (Perm.grow_self _ _).symm, ⟨rfl, rfl, rfl⟩, fun _ _ _ => rfl⟩, by simp, ?_⟩
  generalize w₁.tape w₁.drawn (.order b.fn id) = t
  have A1 := A.rely r
  generalize hw2 : ({ w₁ with drawn := w₁.drawn + 1 } : World) = w₂
  have hh : w₂.heap = w₁.heap := by rw [← hw2]
  have hr2 : Runs ρ (S 0).2.1 w pm (S 0).2.2 ρ (S 0).2.1 w₂ pm (S 0).2.2 := Runs.rely A.sim ⟨by rw [hh]; exact r.size, fun b hb => by rw [hh]; exact r.same b hb, by rw [← hw2]; exact r.world⟩ _
  have A2 : At P C σ ρ (S 0).2.1 w₂ pm (S 0).2.2 N := hr2.at A A.stage
  have hsch : Region.schedule (P.follows .mixedOrders) ops t = Region.linearise.go .any ops ops.size t (Array.replicate ops.size false) [] := by
    simp only [Region.schedule, hmix, Bool.true_or, if_true]
    rfl
  rw [hsch]
  have nd : ∀ j, ¬ dn (Array.replicate ops.size false) j := fun j h => by
    unfold dn at h
    rw [Array.getD_eq_getD_getElem?] at h
    by_cases hj : j < ops.size
    · simp [hj] at h
    · simp [hj] at h
  refine draw_go K X MC W CO RO (NN := N) A2.pmo hN hk (ρ0 := ρ) (w0 := w₂) (pm0 := pm) (d0 := a.defers) (fun σ' ρ' pm' w' a' r' => hK σ' ρ' pm' w' a' (hr2.trans r')) ops.size t _ (ρ := ρ) (q := 0) (by simp) ?_ ?_ ?_ rfl
  · unfold cnt
    exact Nat.le_trans (List.countP_le_length) (by simp)
  · refine ⟨fun j o _ h => absurd h (nd j), Nat.zero_le _, fun j _ => ⟨fun h => absurd h (nd j), fun h => by omega⟩, .inl rfl, fun j hj _ => ?_, fun i h1 h2 => .inl (A.fresh i h1 h2), A.low, A.stage, R.size, fun t k hk hc v hv => ?_, fun i h1 _ => h1, fun i m o o' _ _ h3 h4 h5 => by rw [h3] at h5; cases h5; exact h4⟩
    · obtain ⟨_, _, _, _, _, _, _, _, s1, _, _⟩ := makes X hj
      have := hj.lt
      have := nmono2 X MC (Nat.zero_le j) (by omega)
      have := nmono2 X MC (show j + 1 ≤ ops.toList.length by omega) (Nat.le_refl _)
      exact A.fresh _ (by omega) (by omega)
    · have := tmp_steps X (t := t) k 0 (by omega) fun j o h1 h2 hj hd => nd j ((hc j o hj hd).2 (by omega))
      rw [Nat.zero_add] at this
      rw [this] at hv
      exact R.get t v hv
  · have live0 : ∀ i o, Live T ops.toList S (dn (Array.replicate ops.size false)) 0 i o → (S 0).2.1.get i = some o := by
      rintro i o (⟨_, h⟩ | ⟨j, _, _, h, _⟩)
      · exact h
      · exact absurd h (nd j)
    refine ⟨A.sim.glob, fun i m o h1 h2 => A2.sim.at' i m o h1 (live0 i o h2), fun i j m m' o o' h1 h2 h3 h4 h5 => A.sim.inj i j m m' o o' h1 h2 (live0 _ _ h3) (live0 _ _ h4) h5, fun _ _ h => h, fun _ _ => rfl, Nat.le_refl _, fun _ h => h, fun b => .inl, fun b => .inl, ⟨rfl, rfl, rfl⟩, fun _ _ _ _ => rfl, fun _ _ _ _ => rfl, fun i m h1 h2 h3 => ?_, fun i m o h1 h2 h3 => .inr ⟨i, m, o, h1, live0 i o h2, h3, rfl⟩, fun _ _ h _ => h, fun i m o h1 h2 => ?_⟩
    · rw [A.fresh i h1 (by omega)] at h3; cases h3
    · exact .inr ⟨i, m, o, h1, live0 i o h2, rfl⟩

theorem region_ok : RegionOk T C call := by
  intro nt id ops draw tm tm' h h' n n' e σ ρ pm w b a k cs N A hN R hk hK
  unfold aRegion at e
  cases draw with
  | false => exact region_seq K MC CO RO hk e A hN R hK
  | true =>
    dsimp only at e
    have start : ∀ {ps : List (Nat × Nat)} {S : Nat → St}, drawPairs T ops.toList = some ps → S 0 = (tm, h, n) → S ops.toList.length = (tm', h', n') → (∀ (k : Nat) (o : Oper), 0 ≤ k → ops.toList[k]? = some o → Did P T call nt ops.toList o (S k) (S (k + 1))) →
        (∀ i j, (i, j) ∈ ps → i < ops.toList.length → j < ops.toList.length → pairOk (logAt P T ops.toList S i) (logAt P T ops.toList S j) = true) → C.Go σ pm (G (b.at a (.code (.region id ops true) :: k)) cs) w := by
      intro ps S hp s0 s1 s2 s3
      unfold drawPairs at hp
      split at hp
      · rename_i hck
        rw [Bool.and_eq_true] at hck
        have X : Text P T call nt ops.toList S := ⟨fun k o ho => s2 k o (Nat.zero_le _) ho⟩
        have W : Pairs P T ops.toList S := ⟨hck.2, hck.1, fun i j oi oj hij hi hj hb => by
          have hi' : (ops.toList.map fun o => cls T o.op)[i]? = some (cls T oi.op) := by simp [hi]
          have hj' : (ops.toList.map fun o => cls T o.op)[j]? = some (cls T oj.op) := by simp [hj]
          have := pairsAll_mem hp i j _ _ hi' hj' (by omega) (by rw [Nat.zero_add]; exact hb)
          rw [Nat.zero_add] at this
          exact this.imp (fun y => y) fun x => ⟨x.1, s3 i j x.2 (List.getElem?_eq_some_iff.1 hi).1 (List.getElem?_eq_some_iff.1 hj).1⟩⟩
        have A' : At P C σ ρ (S 0).2.1 w pm (S 0).2.2 N := by rw [s0]; exact A
        have R' : TRel ρ nt (S 0).1 a := by rw [s0]; exact R
        refine region_draw K MC CO RO hmix hk X W A' (by rw [s1]; exact hN) R' ?_
        rw [s0, s1]
        exact hK
      · cases hp
    split at e
    · cases e
    · rename_i hp
      obtain ⟨S, s0, s1, s2⟩ := text_ops (P := P) ops.toList 0 (by simp) e
      rw [Nat.zero_add] at s1
      exact start hp s0 s1 s2 fun i j hm => by simp at hm
    · rename_i ps _ hp
      split at e
      · rename_i tm1 h1 n1 l hops
        split at e
        · rename_i hok
          cases e
          obtain ⟨S, s0, s1, s2, _, s3⟩ := text_opsD (P := P) ops.toList 0 (by simp) rfl hops
          rw [Nat.zero_add] at s1
          refine start hp s0 s1 s2 fun i j hm hi hj => ?_
          have := pairsOk_mem hok hm
          rwa [s3 i (Nat.zero_le _) hi, s3 j (Nat.zero_le _) hj] at this
        · cases e
      · cases e
end
end Go.Det
namespace Go.Det
open Go.Conc

theorem initT_get : ∀ (l : List Value) (i t : Nat) (v : Value), (initT l i).get t = some v → i ≤ t ∧ l[t - i]? = some v
  | [], i, t, v, h => by cases h
  | x :: r, i, t, v, h => by
    unfold initT at h
    rw [Tmps.get_cons] at h
    split at h
    · rename_i hk; subst hk; cases h; exact ⟨Nat.le_refl _, by simp⟩
    · rename_i hk
      obtain ⟨h1, h2⟩ := initT_get r _ t v h
      have h1 : i + 1 ≤ t := h1
      refine ⟨by omega, ?_⟩
      have h2 : r[t - (i + 1)]? = some v := h2
      rw [show t - i = (t - (i + 1)) + 1 from by omega, List.getElem?_cons_succ]
      exact h2

section
variable {P : Program} {T : Tbl} (K : TblOk P T) {C : Ctx P} {sp : Sp} {run : RunA}
include K
/-- calls of the program's own functions -/
theorem call_own (hr : RunOk C run) {g : Nat} {fn : Func} (hf : T.fn g = some fn) {args : List Value} {h : Heap} {n : Nat} {v : Value} {h' : Heap} {n' : Nat} (e : bodyA T run fn args h n = some (v, h', n'))
    {σ : Stage} {ρ : Ren} {pm : Perm} {w : World} {b : Frame} {a : Act} {k : List Item} {cs : List Frame} {ops : Array Oper} {i : Nat} {rest : List Nat} {o : Oper} {N : Nat} (A : At P C σ ρ h w pm n N) (hN : n' ≤ N)
    (ho : ops[i]? = some o) (hw : Region.wanted o (yielded ops a.tmps) = true) (hk : b.kind ≠ .early) (hc : ∀ w₁, Rely pm w w₁ → OpCall P ρ w₁ pm (execOp a.eval o) g args)
    (hK : Behind P C ρ h w pm n v h' n' (fun σ' pm' w' u => C.Go σ' pm' (G (b.at (a.put o.dst u) (.inRegion ops rest :: k)) cs) w')) :
    C.Go σ pm (G (b.at a (.inRegion ops (i :: rest) :: k)) cs) w := by
  obtain ⟨f1, f2⟩ := K.fn g fn hf
  unfold bodyA at e
  split at e
  · cases e
  · rename_i c hb
    split at e
    · rename_i hle
      have hle := Nat.le_of_ble_eq_true hle
      rw [lenL_eq] at hle
      split at e
      rename_i m hm
      unfold bodyR at e
      split at e
      · rename_i tm1 h1 n1 hrun
        split at e
        · rename_i v1 hv
          cases e
          refine C.enter ho hw hk f1 f2 hb hc fun w₁ us r hus => ?_
          rw [enter_at _ f1 hb]
          have hlen := hus.len
          have R0 : TRel ρ fn.ntmps (initT args 0) { tmps := ⟨us⟩ ++ Array.replicate (fn.ntmps - (⟨us⟩ : Array Value).size) undef, defers := [] } := by
            refine ⟨?_, fun t x ht => ?_⟩
            · simp only [Array.size_append, Array.size_replicate]
              show us.length + (fn.ntmps - us.length) = fn.ntmps
              omega
            · obtain ⟨_, q2⟩ := initT_get _ _ _ _ ht
              rw [Nat.sub_zero] at q2
              obtain ⟨u, hu, hx⟩ := hus.at' q2
              refine ⟨u, ?_, hx⟩
              have hlt := (List.getElem?_eq_some_iff.1 hu).1
              rw [Array.getElem?_append_left (by simpa using hlt)]
              simpa using hu
          refine hr (fn := ⟨fn.ntmps, m⟩) hrun (A.rely r) hN R0 (show CallKind.normal ≠ .early by decide) fun σ' ρ' pm' w' a' td r' s' R' d' => ?_
          refine C.step rfl fun w₂ q => ?_
          obtain ⟨u, es, g1, g2, g3⟩ := res_rel K (r'.sim.rely q) R' hv
          have hs := stepG_leaveE (P := P) (b := base g) (a := a') (todo := td) (cs := cs) (c := b.at a (.inRegion ops (i :: rest) :: k)) rfl d' f1 C.main g1
          refine ⟨_, _, _, pm', hs, StepOk.refl _ _, evIn_seen g2, ?_⟩
          rw [Frame.finish_at, ho]
          exact hK σ' ρ' pm' w₂ u (((Runs.rely A.sim r n).trans r').trans (Runs.rely r'.sim q _)) s' g3
        · cases e
      · cases e
    · cases e
end
end Go.Det
namespace Go.Det
open Go.Conc

/-- what is told of the calls that are told by something else than their text holds -/
def SpOk {P : Program} (C : Ctx P) (sp : Sp) : Prop :=
  ∀ {g : Nat} {args : List Value} {h : Heap} {n : Nat} {v : Value} {h' : Heap} {n' : Nat}, sp g args h n = some (some (v, h', n')) →
  ∀ {σ : Stage} {ρ : Ren} {pm : Perm} {w : World} {b : Frame} {a : Act} {k : List Item} {cs : List Frame} {ops : Array Oper} {i N : Nat} {rest : List Nat} {o : Oper}, At P C σ ρ h w pm n N → n' ≤ N →
    ops[i]? = some o → Region.wanted o (yielded ops a.tmps) = true → b.kind ≠ .early → (∀ w₁, Rely pm w w₁ → OpCall P ρ w₁ pm (execOp a.eval o) g args) →
    Behind P C ρ h w pm n v h' n' (fun σ' pm' w' u => C.Go σ' pm' (G (b.at (a.put o.dst u) (.inRegion ops rest :: k)) cs) w') →
    C.Go σ pm (G (b.at a (.inRegion ops (i :: rest) :: k)) cs) w

section
variable {P : Program} {T : Tbl} (K : TblOk P T) {C : Ctx P} {sp : Sp} (MS : MonoS sp) (SO : SpOk C sp) (RO : RecvOk T C)
include K SO
theorem call_ok {run : RunA} (hr : RunOk C run) : CallOk C (callA T sp run) := by
  intro g args h n v h' n' e σ ρ pm w b a k cs ops i N rest o A hN ho hw hk hc hK
  unfold callA at e
  split at e
  · rename_i r hs
    subst e
    exact SO hs A hN ho hw hk hc hK
  · split at e
    · cases e
    · rename_i fn hf
      exact call_own K hr hf e A hN ho hw hk hc hK
include RO MS
theorem run_ok (hmix : P.follows .mixedOrders = true) (f : Nat) : RunOk C (aRun P T sp f) := by
  induction f with
  | zero => intro fn todo tm tm' h h' n n' e; cases e
  | succ f ih => exact run_step (aRun_mono MS f) ih (region_ok K (callA_mono MS (aRun_mono MS f)) (call_ok K SO ih) RO hmix)
end
end Go.Det
