/- The operations of a sequential region, one by one: what the evaluator says of them holds in the model. Conditions: none beyond what each theorem states. -/
import Derived.Test.YtohliokdpiafbaaGreatDoorDetC
import Derived.Conc.Own
import Derived.Conc.Listed
import Derived.IntWalk
set_option linter.unusedVariables false
set_option linter.unusedSimpArgs false
set_option linter.unusedSectionVars false
namespace Go.Det

/-! ### the trie -/
theorem Tr.get_leaf {α : Type} (n : Nat) : (Tr.leaf : Tr α).get n = none := by cases n <;> rfl

theorem split4 {m j : Nat} (h : Nat.mod m 4 = Nat.mod j 4) (h' : Nat.div m 4 = Nat.div j 4) : m = j := by
  have a := Nat.div_add_mod m 4
  have b := Nat.div_add_mod j 4
  have h1 : m % 4 = j % 4 := h
  have h2 : m / 4 = j / 4 := h'
  omega

theorem mod4 (m : Nat) : Nat.mod m 4 = 0 ∨ Nat.mod m 4 = 1 ∨ Nat.mod m 4 = 2 ∨ Nat.mod m 4 = 3 := by
  have : m % 4 < 4 := Nat.mod_lt _ (by decide)
  have e : Nat.mod m 4 = m % 4 := rfl
  omega

theorem Tr.get_put {α : Type} : ∀ (f : Nat) (t : Tr α) (n : Nat) (x : Option α) (t' : Tr α), Tr.put f t n x = some t' → ∀ k, t'.get k = if k = n then x else t.get k
  | 0, _, _, _, _, h => by simp [Tr.put] at h
  | f + 1, .leaf, 0, x, t', h => by
    simp only [Tr.put, Option.some.injEq] at h
    subst h
    intro k
    cases k with
    | zero => simp [Tr.get]
    | succ j => rcases mod4 j with e | e | e | e <;> simp [Tr.get, e]
  | f + 1, .leaf, m + 1, x, t', h => by
    simp only [Tr.put] at h
    split at h
    · cases h
    · rename_i t ht
      have ih := Tr.get_put f _ _ _ _ ht
      intro k
      have hk : ∀ j, Nat.mod m 4 = Nat.mod j 4 → t.get (Nat.div j 4) = if j + 1 = m + 1 then x else none := by
        intro j e
        rw [ih]
        by_cases e2 : Nat.div j 4 = Nat.div m 4
        · rw [if_pos e2, if_pos (by have := split4 e e2.symm; omega)]
        · rw [if_neg e2, if_neg (by intro e3; have : j = m := by omega
                                    subst this; exact e2 rfl), Tr.get_leaf]
      have hne : ∀ j, Nat.mod m 4 ≠ Nat.mod j 4 → ¬ (j + 1 = m + 1) := by
        intro j e e2
        have : j = m := by omega
        subst this; exact e rfl
      cases k with
      | zero => (split at h <;> (simp only [Option.some.injEq] at h; subst h; simp [Tr.get, Tr.get_leaf]))
      | succ j =>
        rw [Tr.get_leaf]
        rcases mod4 m with e | e | e | e <;> simp only [e, Option.some.injEq] at h <;> subst h <;>
          rcases mod4 j with e' | e' | e' | e' <;> simp only [Tr.get, e'] <;>
          first
            | exact hk j (by rw [e, e'])
            | (rw [if_neg (hne j (by rw [e, e']; decide))])
            | (rw [Tr.get_leaf, if_neg (hne j (by rw [e, e']; decide))])
  | f + 1, .node v a b c d, 0, x, t', h => by
    simp only [Tr.put, Option.some.injEq] at h
    subst h
    intro k
    cases k with
    | zero => simp [Tr.get]
    | succ j => rcases mod4 j with e | e | e | e <;> simp [Tr.get, e]
  | f + 1, .node v a b c d, m + 1, x, t', h => by
    have hne : ∀ j, Nat.mod m 4 ≠ Nat.mod j 4 → ¬ (j + 1 = m + 1) := by
      intro j e e2
      have : j = m := by omega
      subst this; exact e rfl
    have hk : ∀ (s t : Tr α), Tr.put f s (Nat.div m 4) x = some t → ∀ j, Nat.mod m 4 = Nat.mod j 4 → t.get (Nat.div j 4) = if j + 1 = m + 1 then x else s.get (Nat.div j 4) := by
      intro s t ht j e
      rw [Tr.get_put f _ _ _ _ ht]
      by_cases e2 : Nat.div j 4 = Nat.div m 4
      · rw [if_pos e2, if_pos (by have := split4 e e2.symm; omega)]
      · rw [if_neg e2, if_neg (by intro e3; have : j = m := by omega
                                  subst this; exact e2 rfl)]
    intro k
    rcases mod4 m with e | e | e | e <;> simp only [Tr.put, e] at h <;> split at h <;> first | (cases h; done) | skip
    all_goals
      rename_i t ht
      simp only [Option.some.injEq] at h
      subst h
      cases k with
      | zero => simp [Tr.get]
      | succ j =>
        rcases mod4 j with e' | e' | e' | e' <;> simp only [Tr.get, e'] <;>
          first
            | exact hk _ _ ht j (by rw [e, e'])
            | (rw [if_neg (hne j (by rw [e, e']; decide))])

theorem hput_get {h h' : Heap} {i : Nat} {o : AObj} (e : hput h i o = some h') (k : Nat) : h'.get k = if k = i then some o else h.get k := Tr.get_put _ _ _ _ _ e k
theorem hdel_get {h h' : Heap} {i : Nat} (e : hdel h i = some h') (k : Nat) : h'.get k = if k = i then none else h.get k := Tr.get_put _ _ _ _ _ e k

theorem Tmps.get_cons (k : Nat) (v : Value) (r : Tmps) (t : Nat) : (Tmps.cons k v r).get t = if k = t then some v else r.get t := by
  simp only [Tmps.get]
  by_cases h : k = t
  · subst h; simp
  · rw [if_neg h]
    have : Nat.beq k t = false := by
      cases hb : Nat.beq k t with
      | false => rfl
      | true => exact absurd (Nat.eq_of_beq_eq_true hb) h
    rw [this]
theorem Tmps.get_del (r : Tmps) (k t : Nat) (v : Value) (h : (r.del k).get t = some v) : r.get t = some v ∧ k ≠ t := by
  induction r with
  | nil => simp [Tmps.del, Tmps.get] at h
  | cons i x r ih =>
    simp only [Tmps.del] at h
    cases hb : Nat.beq i k with
    | true =>
      rw [hb] at h
      obtain ⟨h1, h2⟩ := ih h
      have e : i = k := Nat.eq_of_beq_eq_true hb
      rw [Tmps.get_cons]
      exact ⟨by rw [if_neg (by rw [e]; exact h2)]; exact h1, h2⟩
    | false =>
      rw [hb] at h
      have ne : i ≠ k := by intro e; subst e; simp at hb
      simp only at h
      rw [Tmps.get_cons] at h
      rw [Tmps.get_cons]
      by_cases e : i = t
      · rw [if_pos e] at h ⊢
        exact ⟨h, by subst e; exact Ne.symm ne⟩
      · rw [if_neg e] at h ⊢
        exact ih h

/-! ### lists -/
theorem getL_eq {α : Type} : ∀ (l : List α) (n : Nat), getL l n = l[n]?
  | [], n => by cases n <;> rfl
  | v :: r, 0 => rfl
  | v :: r, n + 1 => by simp [getL, getL_eq r n]
theorem takeL_eq {α : Type} : ∀ (l : List α) (n : Nat) (s : List α), takeL l n = some s → n ≤ l.length ∧ s = l.take n
  | l, 0, s, h => by cases l <;> (simp [takeL] at h; subst h; simp)
  | [], n + 1, s, h => by simp [takeL] at h
  | v :: r, n + 1, s, h => by
    simp only [takeL] at h
    split at h
    · cases h
    · rename_i t ht
      obtain ⟨h1, h2⟩ := takeL_eq r n t ht
      simp only [Option.some.injEq] at h
      subst h h2
      exact ⟨by simp; omega, by simp⟩
theorem dropL_eq {α : Type} : ∀ (l : List α) (n : Nat) (s : List α), dropL l n = some s → n ≤ l.length ∧ s = l.drop n
  | l, 0, s, h => by cases l <;> (simp [dropL] at h; subst h; simp)
  | [], n + 1, s, h => by simp [dropL] at h
  | v :: r, n + 1, s, h => by
    simp only [dropL] at h
    obtain ⟨h1, h2⟩ := dropL_eq r n s h
    exact ⟨by simp; omega, by simp [h2]⟩
theorem cellsAt_eq {α : Type} {l : List α} {off n : Nat} {s : List α} (h : cellsAt l off n = some s) : off + n ≤ l.length ∧ s = (l.drop off).take n := by
  unfold cellsAt at h
  split at h
  · cases h
  · rename_i r hr
    obtain ⟨h1, h2⟩ := dropL_eq _ _ _ hr
    obtain ⟨h3, h4⟩ := takeL_eq _ _ _ h
    subst h2
    rw [List.length_drop] at h3
    exact ⟨by omega, h4⟩
theorem cellsAt_get {α : Type} {l : List α} {off n : Nat} {s : List α} (h : cellsAt l off n = some s) : s.length = n ∧ ∀ k, k < n → s[k]? = l[off + k]? := by
  obtain ⟨h1, rfl⟩ := cellsAt_eq h
  refine ⟨by simp; omega, fun k hk => ?_⟩
  rw [List.getElem?_take_of_lt hk, List.getElem?_drop]
theorem putHead_eq {α : Type} : ∀ (l xs s : List α), putHead l xs = some s → xs.length ≤ l.length ∧ s = xs ++ l.drop xs.length
  | l, [], s, h => by cases l <;> (simp [putHead] at h; subst h; simp)
  | [], x :: xs, s, h => by simp [putHead] at h
  | y :: r, x :: xs, s, h => by
    simp only [putHead] at h
    split at h
    · cases h
    · rename_i t ht
      obtain ⟨h1, h2⟩ := putHead_eq r xs t ht
      simp only [Option.some.injEq] at h
      subst h h2
      exact ⟨by simp; omega, by simp⟩
theorem putAt_eq {α : Type} : ∀ (l : List α) (n : Nat) (xs s : List α), putAt l n xs = some s → n + xs.length ≤ l.length ∧ s = l.take n ++ xs ++ l.drop (n + xs.length)
  | l, 0, xs, s, h => by
    have h' : putHead l xs = some s := by cases l <;> simpa [putAt] using h
    obtain ⟨h1, h2⟩ := putHead_eq l xs s h'
    subst h2
    exact ⟨by omega, by simp⟩
  | [], n + 1, xs, s, h => by simp [putAt] at h
  | v :: r, n + 1, xs, s, h => by
    simp only [putAt] at h
    split at h
    · cases h
    · rename_i t ht
      obtain ⟨h1, h2⟩ := putAt_eq r n xs t ht
      simp only [Option.some.injEq] at h
      subst h h2
      exact ⟨by simp; omega, by simp [Nat.add_right_comm]⟩
theorem putAt_get {α : Type} {l : List α} {n : Nat} {xs s : List α} (h : putAt l n xs = some s) :
    s.length = l.length ∧ n + xs.length ≤ l.length ∧ ∀ k, s[k]? = if n ≤ k ∧ k < n + xs.length then xs[k - n]? else l[k]? := by
  obtain ⟨h1, rfl⟩ := putAt_eq l n xs s h
  refine ⟨by simp; omega, h1, fun k => ?_⟩
  by_cases hk : k < n
  · rw [if_neg (by omega), List.append_assoc, List.getElem?_append_left (by simp; omega), List.getElem?_take_of_lt hk]
  · by_cases hk2 : k < n + xs.length
    · rw [if_pos ⟨by omega, hk2⟩, List.append_assoc, List.getElem?_append_right (by simp; omega), List.getElem?_append_left (by simp; omega)]
      congr 1
      simp; omega
    · rw [if_neg (by omega), List.append_assoc, List.getElem?_append_right (by simp; omega), List.getElem?_append_right (by simp; omega), List.getElem?_drop]
      congr 1
      simp; omega
theorem catL_eq {α : Type} : ∀ (a b : List α), catL a b = a ++ b
  | [], b => rfl
  | x :: a, b => by simp [catL, catL_eq a b]
theorem lenL_eq {α : Type} : ∀ (a : List α) (k : Nat), lenL a k = a.length + k
  | [], k => by simp [lenL]
  | x :: a, k => by simp [lenL, lenL_eq a]; omega
theorem repL_len {α : Type} (z : List α) : ∀ n, (repL z n).length = n * z.length
  | 0 => by simp [repL]
  | n + 1 => by simp [repL, catL_eq, repL_len z n, Nat.succ_mul]; omega
theorem repL_get {α : Type} (z : List α) : ∀ (n k : Nat), k < n * z.length → (repL z n)[k]? = z[k % z.length]?
  | 0, k, h => by simp at h
  | n + 1, k, h => by
    simp only [repL, catL_eq]
    by_cases hk : k < z.length
    · rw [List.getElem?_append_left hk, Nat.mod_eq_of_lt hk]
    · rw [List.getElem?_append_right (by omega), repL_get z n (k - z.length) (by rw [Nat.succ_mul] at h; omega)]
      rw [Nat.mod_eq_sub_mod (by omega : k ≥ z.length)]

/-! ### numbers -/
theorem ltI_eq : ∀ (a b : Int), ltI a b = decide (a < b)
  | .ofNat a, .ofNat b => by
    simp only [ltI]
    rw [Bool.eq_iff_iff]
    simp [Nat.blt_eq]
  | .negSucc a, .ofNat b => by simp only [ltI]; rw [Bool.eq_iff_iff]; simp; omega
  | .ofNat a, .negSucc b => by simp only [ltI]; rw [Bool.eq_iff_iff]; simp; omega
  | .negSucc a, .negSucc b => by
    simp only [ltI]
    rw [Bool.eq_iff_iff]
    simp [Nat.blt_eq]
    omega
theorem eqI_eq : ∀ (a b : Int), eqI a b = (a == b)
  | .ofNat a, .ofNat b => by
    simp only [eqI]; rw [Bool.eq_iff_iff]; simp; omega
  | .negSucc a, .ofNat b => by simp only [eqI]; rw [Bool.eq_iff_iff]; simp
  | .ofNat a, .negSucc b => by simp only [eqI]; rw [Bool.eq_iff_iff]; simp
  | .negSucc a, .negSucc b => by
    simp only [eqI]; rw [Bool.eq_iff_iff]; simp
theorem lt_of_blt {m c : Nat} (h : Nat.blt m c = true) : m < c := by simpa [Nat.blt_eq] using h
theorem wrapF_nat (k : IntKind) (m c : Nat) (hc : ∀ n : Int, 0 ≤ n → n < (c : Int) → k.wrap n = n) : (bif Nat.blt m c then Int.ofNat m else k.wrap (Int.ofNat m)) = k.wrap (Int.ofNat m) := by
  cases h : Nat.blt m c with
  | true => exact (hc _ (Int.natCast_nonneg m) (Int.ofNat_lt.2 (lt_of_blt h))).symm
  | false => rfl
theorem wrapF_neg (k : IntKind) (m c : Nat) (hc : ∀ n : Int, -(c : Int) ≤ n → n < 0 → k.wrap n = n) : (bif Nat.blt m c then Int.negSucc m else k.wrap (Int.negSucc m)) = k.wrap (Int.negSucc m) := by
  cases h : Nat.blt m c with
  | true =>
    have := lt_of_blt h
    exact (hc (Int.negSucc m) (by omega) (by omega)).symm
  | false => rfl
theorem wrapF_eq (k : IntKind) (n : Int) : wrapF k n = k.wrap n := by
  cases n with
  | ofNat m =>
    cases k with
    | i64 => exact wrapF_nat .i64 m _ fun n h0 h1 => IntWalk.i64_in n ⟨by omega, by omega⟩
    | u64 => exact wrapF_nat .u64 m _ fun n h0 h1 => IntWalk.u64_in n ⟨h0, by omega⟩
    | u32 => exact wrapF_nat .u32 m _ fun n h0 h1 => IntWalk.u32_in n ⟨h0, by omega⟩
    | u8 => exact wrapF_nat .u8 m _ fun n h0 h1 => IntWalk.u8_in n ⟨h0, by omega⟩
    | _ => rfl
  | negSucc m =>
    cases k with
    | i64 => exact wrapF_neg .i64 m _ fun n h0 h1 => IntWalk.i64_in n ⟨by omega, by omega⟩
    | _ => rfl
theorem kindEq_eq (k l : IntKind) : kindEq k l = true ↔ k = l := by cases k <;> cases l <;> simp [kindEq]

theorem pureRun_eq {α : Type} (P : Program) : ∀ (s : Sem α) (a : α), pureRun P s = some a → ∀ w es, s.runT P w es = (.ok a w, es)
  | .pure x, a, h, w, es => by simp [pureRun] at h; subst h; rfl
  | .program k, a, h, w, es => by simp only [pureRun] at h; simpa [Sem.runT, -Sem.runT_eq] using pureRun_eq P (k P) a h w es
  | .load .., _, h, _, _ => by simp [pureRun] at h
  | .store .., _, h, _, _ => by simp [pureRun] at h
  | .new .., _, h, _, _ => by simp [pureRun] at h
  | .shape .., _, h, _, _ => by simp [pureRun] at h
  | .freeze .., _, h, _, _ => by simp [pureRun] at h
  | .frozen .., _, h, _, _ => by simp [pureRun] at h
  | .getObj .., _, h, _, _ => by simp [pureRun] at h
  | .setObj .., _, h, _, _ => by simp [pureRun] at h
  | .choose .., _, h, _, _ => by simp [pureRun] at h
  | .sys .., _, h, _, _ => by simp [pureRun] at h
  | .mark .., _, h, _, _ => by simp [pureRun] at h
  | .halt .., _, h, _, _ => by simp [pureRun] at h

end Go.Det
namespace Go.Det

/-! ### what a true value is to an abstract one -/

/-- where an abstract block lies: the true block, where in it it begins; 'fx': laid by an append: its elements' size, and how many cells there are in truth -/
structure Img where
  b : Nat
  s : Nat
  fx : Option (Nat × Nat)

abbrev Ren := Nat → Option Img

def CapOk (m : Img) (off c c' : Nat) : Prop := match m.fx with
  | none => c' = c
  | some (sz, R) => c ≤ c' ∧ off + c' * sz ≤ R

inductive VRel (ρ : Ren) : Value → Value → Prop
  | bool (b : Bool) : VRel ρ (.bool b) (.bool b)
  | int (k : IntKind) (n : Int) : VRel ρ (.int k n) (.int k n)
  | string (s : ByteArray) : VRel ρ (.string s) (.string s)
  | nilPtr : VRel ρ (.pointer none) (.pointer none)
  | ptr {i : Nat} {m : Img} {off : Nat} : ρ i = some m → VRel ρ (.pointer (some ⟨i, off, none⟩)) (.pointer (some ⟨m.b, m.s + off, none⟩))
  | nilSlice (l c : Nat) : VRel ρ (.slice none l c) (.slice none l c)
  | slice {i : Nat} {m : Img} {off l c c' : Nat} : ρ i = some m → CapOk m off c c' → VRel ρ (.slice (some ⟨i, off, none⟩) l c) (.slice (some ⟨m.b, m.s + off, none⟩) l c')
  | nilMap : VRel ρ (.map none) (.map none)
  | map {i : Nat} {m : Img} : ρ i = some m → VRel ρ (.map (some i)) (.map (some m.b))
  | nilChan : VRel ρ (.chan none) (.chan none)
  | chan {i : Nat} {m : Img} : ρ i = some m → VRel ρ (.chan (some i)) (.chan (some m.b))
  | nilFunc : VRel ρ .nilFunc .nilFunc
  | func {f : Nat} {a b a' b' : List Value} : a.length = a'.length → (∀ (k : Nat) (v u : Value), a[k]? = some v → a'[k]? = some u → VRel ρ v u) →
      b.length = b'.length → (∀ (k : Nat) (v u : Value), b[k]? = some v → b'[k]? = some u → VRel ρ v u) → VRel ρ (.func (.func f) ⟨a⟩ ⟨b⟩) (.func (.func f) ⟨a'⟩ ⟨b'⟩)
  | nilIface : VRel ρ .nilIface .nilIface
  | iface {t : Nat} {v u : Value} : VRel ρ v u → VRel ρ (.iface t v) (.iface t u)
  | agg {a a' : List Value} : a.length = a'.length → (∀ (k : Nat) (v u : Value), a[k]? = some v → a'[k]? = some u → VRel ρ v u) → VRel ρ (.agg ⟨a⟩) (.agg ⟨a'⟩)
  | tuple {a a' : List Value} : a.length = a'.length → (∀ (k : Nat) (v u : Value), a[k]? = some v → a'[k]? = some u → VRel ρ v u) → VRel ρ (.tuple ⟨a⟩) (.tuple ⟨a'⟩)

structure VRels (ρ : Ren) (a a' : List Value) : Prop where
  len : a.length = a'.length
  get : ∀ (k : Nat) (v u : Value), a[k]? = some v → a'[k]? = some u → VRel ρ v u

def Ren.le (ρ ρ' : Ren) : Prop := ∀ i m, ρ i = some m → ρ' i = some m

theorem VRel.mono {ρ ρ' : Ren} (h : ρ.le ρ') {v u : Value} (r : VRel ρ v u) : VRel ρ' v u := by
  induction r with
  | bool b => exact .bool b
  | int k n => exact .int k n
  | string s => exact .string s
  | nilPtr => exact .nilPtr
  | ptr e => exact .ptr (h _ _ e)
  | nilSlice l c => exact .nilSlice l c
  | slice e c => exact .slice (h _ _ e) c
  | nilMap => exact .nilMap
  | map e => exact .map (h _ _ e)
  | nilChan => exact .nilChan
  | chan e => exact .chan (h _ _ e)
  | nilFunc => exact .nilFunc
  | func l1 _ l2 _ ih1 ih2 => exact .func l1 ih1 l2 ih2
  | nilIface => exact .nilIface
  | iface _ ih => exact .iface ih
  | agg l _ ih => exact .agg l ih
  | tuple l _ ih => exact .tuple l ih

theorem VRels.mono {ρ ρ' : Ren} (h : ρ.le ρ') {a a' : List Value} (r : VRels ρ a a') : VRels ρ' a a' := ⟨r.len, fun k v u hv hu => (r.get k v u hv hu).mono h⟩

section
variable {ρ : Ren}

theorem VRels.nil : VRels ρ [] [] := ⟨rfl, fun k v u h => by simp at h⟩
theorem VRels.cons {v u : Value} {a a' : List Value} (h : VRel ρ v u) (r : VRels ρ a a') : VRels ρ (v :: a) (u :: a') := by
  refine ⟨by simp [r.len], fun k x y hx hy => ?_⟩
  cases k with
  | zero => simp at hx hy; subst hx hy; exact h
  | succ k => exact r.get k x y (by simpa using hx) (by simpa using hy)
theorem VRels.cons_inv {v : Value} {a l : List Value} (r : VRels ρ (v :: a) l) : ∃ u a', l = u :: a' ∧ VRel ρ v u ∧ VRels ρ a a' := by
  cases l with
  | nil => exact absurd r.len (by simp)
  | cons u a' => exact ⟨u, a', rfl, r.get 0 v u rfl rfl, by simpa using r.len, fun k x y hx hy => r.get (k + 1) x y (by simpa using hx) (by simpa using hy)⟩
theorem VRels.nil_inv {l : List Value} (r : VRels ρ [] l) : l = [] := by
  cases l with
  | nil => rfl
  | cons u a' => exact absurd r.len (by simp)
theorem VRels.append {a a' b b' : List Value} (h : VRels ρ a a') (r : VRels ρ b b') : VRels ρ (a ++ b) (a' ++ b') := by
  refine ⟨by simp [h.len, r.len], fun k x y hx hy => ?_⟩
  by_cases hk : k < a.length
  · rw [List.getElem?_append_left hk] at hx
    rw [List.getElem?_append_left (by rw [← h.len]; exact hk)] at hy
    exact h.get k x y hx hy
  · rw [List.getElem?_append_right (by omega)] at hx
    rw [List.getElem?_append_right (by rw [← h.len]; omega), ← h.len] at hy
    exact r.get _ x y hx hy
theorem VRels.at' {a a' : List Value} (h : VRels ρ a a') {k : Nat} {v : Value} (hv : a[k]? = some v) : ∃ u, a'[k]? = some u ∧ VRel ρ v u := by
  have hk : k < a'.length := by rw [← h.len]; exact (List.getElem?_eq_some_iff.1 hv).1
  exact ⟨a'[k], List.getElem?_eq_getElem hk, h.get k v _ hv (List.getElem?_eq_getElem hk)⟩

theorem VRel.cells {v u : Value} (h : VRel ρ v u) : VRels ρ (vcells v) u.cells.toList := by
  cases h with
  | agg l h => exact ⟨l, h⟩
  | bool => exact .cons (.bool _) .nil
  | int => exact .cons (.int _ _) .nil
  | string => exact .cons (.string _) .nil
  | nilPtr => exact .cons .nilPtr .nil
  | ptr e => exact .cons (.ptr e) .nil
  | nilSlice => exact .cons (.nilSlice _ _) .nil
  | slice e c => exact .cons (.slice e c) .nil
  | nilMap => exact .cons .nilMap .nil
  | map e => exact .cons (.map e) .nil
  | nilChan => exact .cons .nilChan .nil
  | chan e => exact .cons (.chan e) .nil
  | nilFunc => exact .cons .nilFunc .nil
  | func a b c d => exact .cons (.func a b c d) .nil
  | nilIface => exact .cons .nilIface .nil
  | iface e => exact .cons (.iface e) .nil
  | tuple l h => exact .cons (.tuple l h) .nil

/-- a value without addresses is itself -/
theorem afree_self {v u : Value} (h : VRel ρ v u) (f : afree v = true) : u = v := by
  cases h <;> first | rfl | (simp [afree] at f)
theorem afree_rel {v : Value} (f : afree v = true) : VRel ρ v v := by
  cases v with
  | bool b => exact .bool b
  | int k n => exact .int k n
  | string s => exact .string s
  | nilFunc => exact .nilFunc
  | nilIface => exact .nilIface
  | pointer p => cases p <;> first | exact .nilPtr | simp [afree] at f
  | slice p a b => cases p <;> first | exact .nilSlice _ _ | simp [afree] at f
  | map p => cases p <;> first | exact .nilMap | simp [afree] at f
  | chan p => cases p <;> first | exact .nilChan | simp [afree] at f
  | _ => simp [afree] at f
theorem afrees_get : ∀ (l : List Value), afrees l = true → ∀ (k : Nat) v, l[k]? = some v → afree v = true
  | [], _, k, v, h => by simp at h
  | x :: r, f, k, v, h => by
    simp only [afrees] at f
    split at f
    · rename_i hx
      cases k with
      | zero => simp at h; subst h; exact hx
      | succ k => exact afrees_get r f k v (by simpa using h)
    · cases f
theorem lfree_self {v u : Value} (h : VRel ρ v u) (f : lfree v = true) : u = v := by
  cases h with
  | agg l h =>
    rename_i a a'
    have fa : afrees a = true := f
    congr 2
    refine List.ext_getElem? fun k => ?_
    by_cases hk : k < a.length
    · have e1 := List.getElem?_eq_getElem hk
      have hk' : k < a'.length := by omega
      have e2 := List.getElem?_eq_getElem hk'
      rw [e1, e2, afree_self (h k _ _ e1 e2) (afrees_get a fa k _ e1)]
    · rw [List.getElem?_eq_none (by omega), List.getElem?_eq_none (by omega)]
  | _ => exact afree_self (ρ := ρ) (by first | assumption | constructor <;> assumption) f
theorem lfree_rel {v : Value} (f : lfree v = true) : VRel ρ v v := by
  cases v with
  | agg cs =>
    obtain ⟨a⟩ := cs
    refine .agg rfl fun k v u hv hu => ?_
    rw [hv] at hu
    cases hu
    exact afree_rel (afrees_get a f k v hv)
  | _ => exact afree_rel f
end

/-! ### the heap -/
structure Perm where
  rd : Nat → Prop
  wr : Nat → Prop
def Perm.grow (pm : Perm) (lo hi : Nat) : Perm := ⟨fun b => pm.rd b ∨ (lo ≤ b ∧ b < hi), fun b => pm.wr b ∨ (lo ≤ b ∧ b < hi)⟩

def AObj.ro : AObj → Bool
  | .cells _ _ _ r => r
  | .map _ => false
  | .pipe _ => true
  | .chan0 => false

structure Cells (ρ : Ren) (m : Img) (cs : List Value) (c : Array Value) : Prop where
  get : ∀ k v, cs[k]? = some v → ∃ u, c[m.s + k]? = some u ∧ VRel ρ v u

def ORel (ρ : Ren) (m : Img) : AObj → Obj → Prop
  | .cells el cs fx ro, .cells c e fr => e = el ∧ Cells ρ m cs c ∧ (fx = none → m.fx = none ∧ m.s = 0 ∧ c.size = cs.length) ∧
      (∀ sz, fx = some sz → ∃ R, m.fx = some (sz, R) ∧ c.size = m.s + R ∧ cs.length ≤ R) ∧ (ro = false → fr.2 ≤ fr.1)
  | .map es, .map ents _ => m.fx = none ∧ es.length = ents.size ∧ ∀ (k : Nat) x y, es[k]? = some x → ents[k]? = some y → VRel ρ x.1 y.key ∧ VRel ρ x.2 y.val
  | .pipe _, .chan .. => m.fx = none
  | .chan0, .chan cap buf closed _ _ _ => m.fx = none ∧ cap = 0 ∧ buf = #[] ∧ closed = false
  | _, _ => False

/-- a block is where it is said to be (a channel's own state is not this goroutine's alone) -/
def There (ρ : Ren) (w : World) (pm : Perm) (m : Img) (o : AObj) : Prop := match o with
  | .pipe _ => m.b < w.heap.size
  | o => ∃ ro, w.heap[m.b]? = some ro ∧ ORel ρ m o ro ∧ pm.rd m.b ∧ (o.ro = false → pm.wr m.b)

structure Sim (ρ : Ren) (h : Heap) (w : World) (pm : Perm) : Prop where
  glob : ∀ g, g < 64 → ρ g = some ⟨g, 0, none⟩
  at' : ∀ i m o, ρ i = some m → h.get i = some o → There ρ w pm m o
  inj : ∀ i j m m' o o', ρ i = some m → ρ j = some m' → h.get i = some o → h.get j = some o' → m.b = m'.b → i = j

/-- what is known of a frame's temporaries -/
structure TRel (ρ : Ren) (nt : Nat) (tm : Tmps) (a : Act) : Prop where
  size : a.tmps.size = nt
  get : ∀ t v, tm.get t = some v → ∃ u, a.tmps[t]? = some u ∧ VRel ρ v u

theorem TRel.mono {ρ ρ' : Ren} (h : ρ.le ρ') {nt : Nat} {tm : Tmps} {a : Act} (r : TRel ρ nt tm a) : TRel ρ' nt tm a :=
  ⟨r.size, fun t v e => let ⟨u, hu, hr⟩ := r.get t v e; ⟨u, hu, hr.mono h⟩⟩

theorem TRel.put {ρ : Ren} {nt : Nat} {tm tm' : Tmps} {a : Act} (r : TRel ρ nt tm a) {v u : Value} (hv : VRel ρ v u) {d : Option Nat} (e : putA nt d tm v = some tm') : TRel ρ nt tm' (a.put d u) := by
  cases d with
  | none => simp [putA] at e; subst e; exact r
  | some d =>
    simp only [putA] at e
    split at e
    · rename_i hb
      have hlt := lt_of_blt hb
      simp only [Option.some.injEq] at e
      subst e
      refine ⟨by simp [Act.put, r.size], fun t x ht => ?_⟩
      rw [Tmps.get_cons] at ht
      by_cases hd : d = t
      · rw [if_pos hd] at ht
        cases ht
        subst hd
        exact ⟨u, by simp [Act.put, r.size, hlt], hv⟩
      · rw [if_neg hd] at ht
        obtain ⟨y, hy, hr⟩ := r.get t x ht
        exact ⟨y, by simp [Act.put, Array.getElem?_setIfInBounds_ne hd, hy], hr⟩
    · cases e

/-! operands -/
section
variable {ρ : Ren} {nt : Nat} {tm : Tmps} {a : Act} (G : ∀ g, g < 64 → ρ g = some ⟨g, 0, none⟩) (R : TRel ρ nt tm a)
include G R

theorem ev_rel {x : Operand} {v : Value} (e : ev tm x = some v) : VRel ρ v (a.eval x) := by
  cases x with
  | tmp t =>
    obtain ⟨u, hu, hr⟩ := R.get t v e
    have : a.eval (.tmp t) = u := by simp [Act.eval, hu]
    rw [this]; exact hr
  | const c =>
    simp only [ev] at e
    split at e
    · rename_i hf
      cases e
      exact lfree_rel hf
    · cases e
  | global g =>
    simp only [ev] at e
    split at e
    · rename_i hg
      cases e
      exact .ptr (G g (lt_of_blt hg))
    · cases e
  | func f =>
    cases e
    exact .func rfl (fun k v u h => by simp at h) rfl (fun k v u h => by simp at h)

theorem evs_rel : ∀ {xs : List Operand} {vs : List Value}, evs tm xs = some vs → VRels ρ vs (xs.map a.eval)
  | [], vs, e => by simp [evs] at e; subst e; exact .nil
  | x :: r, vs, e => by
    simp only [evs] at e
    split at e
    · cases e
    · rename_i v hv
      split at e
      · cases e
      · rename_i s hs
        cases e
        exact .cons (ev_rel G R hv) (evs_rel hs)
end

end Go.Det
namespace Go.Det

/-! ### what is known of the tables -/
def isAggD : TypeDesc → Bool
  | .struct _ => true
  | .array _ _ => true
  | _ => false
structure TyOk (P : Program) (t : Nat) (i : TI) : Prop where
  ex : ∃ info z, P.info? t = some info ∧ info.size = i.size ∧ info.bytes = i.bytes ∧ info.zero = some z ∧ vcells z = i.zero ∧ (i.agg = true → ∃ cs, z = .agg cs) ∧ (i.agg = false → i.zero = [z])
  under : P.underlying t = some i.desc
  len : i.zero.length = i.size
  free : afrees i.zero = true
  agg : i.agg = isAggD i.desc
  one : i.agg = false → ∃ v, i.zero = [v]
structure KeyTy (P : Program) (t nf : Nat) : Prop where
  ex : ∃ fs, P.underlying t = some (.struct fs) ∧ fs.size = nf ∧ ∀ (j : Nat) f, fs[j]? = some f → f.name ≠ "_" ∧ f.offset = j ∧ ∃ k, P.underlying f.type = some (.int k)
  held : P.stoodInHeld t = false
structure TblOk (P : Program) (T : Tbl) : Prop where
  fn : ∀ g fn, T.fn g = some fn → P.funcs[g]? = some fn ∧ (fn.name == "runtime.NumGoroutine") = false
  ty : ∀ t i, T.ty t = some i → TyOk P t i
  key : ∀ t nf, T.key t = some nf → KeyTy P t nf

/-! ### events -/
def EvIn (pm : Perm) (e : Event) : Prop := match e.loc with
  | .cell a => pm.rd a.block ∧ (e.write = true → pm.wr a.block) ∧ e.sync = false
  | .obj r => pm.rd r ∧ (e.write = true → pm.wr r) ∧ e.sync = false
  | .mark m => (m = .noRoom ∨ ∃ f, m = .extern f) ∧ e.write = false ∧ e.sync = true
  | _ => False
theorem evIn_read {pm : Perm} {a : Addr} (h : pm.rd a.block) : EvIn pm ⟨.cell a, false, false⟩ := ⟨h, by simp, rfl⟩
theorem evIn_write {pm : Perm} {a : Addr} (h : pm.rd a.block) (h' : pm.wr a.block) : EvIn pm ⟨.cell a, true, false⟩ := ⟨h, fun _ => h', rfl⟩
def EvLe (pm : Perm) (es es' : Array Event) : Prop := ∀ e ∈ es', e ∈ es ∨ EvIn pm e
theorem EvLe.refl (pm : Perm) (es : Array Event) : EvLe pm es es := fun e h => .inl h
theorem EvLe.trans {pm : Perm} {a b c : Array Event} (h : EvLe pm a b) (k : EvLe pm b c) : EvLe pm a c := fun e he => (k e he).elim (h e) .inr
theorem EvLe.push {pm : Perm} {es : Array Event} {e : Event} (h : EvIn pm e) : EvLe pm es (es.push e) := fun x hx => by
  rcases Array.mem_push.1 hx with hx | rfl
  · exact .inl hx
  · exact .inr h

/-! ### runs -/
section
variable {P : Program} {w w' : World} {es es' : Array Event} {α β : Type}

theorem rT_bind {x : Sem α} {f : α → Sem β} {a : α} (h : x.runT P w es = (.ok a w', es')) : (x >>= f).runT P w es = (f a).runT P w' es' := by
  show (x.bind f).runT P w es = _
  rw [Sem.runT_bind', h]
theorem rT_pure (a : α) : (pure a : Sem α).runT P w es = (.ok a w, es) := rfl
theorem rT_underlying {t : Nat} {d : TypeDesc} (h : P.underlying t = some d) : (underlying t).runT P w es = (.ok d w, es) := by
  unfold underlying
  rw [rT_bind (x := program) (a := P) rfl, h]
  rfl
theorem rT_typeInfo {t : Nat} {i : TypeInfo} (h : P.info? t = some i) : (typeInfo t).runT P w es = (.ok i w, es) := by
  unfold typeInfo
  rw [rT_bind (x := program) (a := P) rfl, h]
  rfl
variable {T : Tbl} (K : TblOk P T)
include K
theorem rT_desc {t : Nat} {i : TI} (h : T.ty t = some i) : (underlying t).runT P w es = (.ok i.desc w, es) := rT_underlying (K.ty t i h).under
theorem rT_sizeOf {t : Nat} {i : TI} (h : T.ty t = some i) : (sizeOf t).runT P w es = (.ok i.size w, es) := by
  obtain ⟨info, z, h1, h2, _⟩ := (K.ty t i h).ex
  unfold sizeOf
  rw [rT_bind (rT_typeInfo h1), h2]
  rfl
theorem rT_zero {t : Nat} {i : TI} (h : T.ty t = some i) : ∃ z, (∀ w es, (zeroValue t).runT P w es = (.ok z w, es)) ∧ vcells z = i.zero ∧ (i.agg = true → ∃ cs, z = .agg cs) := by
  obtain ⟨info, z, h1, _, _, h2, h3, h4, _⟩ := (K.ty t i h).ex
  refine ⟨z, fun w es => ?_, h3, h4⟩
  unfold zeroValue
  rw [rT_bind (rT_typeInfo h1), h2]
  rfl
theorem rT_isAgg {t : Nat} {i : TI} (h : T.ty t = some i) : (isAgg t).runT P w es = (.ok i.agg w, es) := by
  unfold isAgg
  rw [rT_bind (rT_desc K h), (K.ty t i h).agg]
  cases i.desc <;> rfl
end

/-! ### memory -/
section
variable {P : Program} {w : World} {es : Array Event}

theorem cell_of {b off : Nat} {c : Array Value} {e : TypeId} {fr : Nat × Nat} {v : Value} (h : w.heap[b]? = some (.cells c e fr)) (hv : c[off]? = some v) : w.cell? ⟨b, off, none⟩ = some v := by
  simp [World.cell?, h, hv]
theorem rT_load {a : Addr} {v : Value} (h : w.cell? a = some v) : (load a).runT P w es = (.ok v w, es.push ⟨.cell a, false, false⟩) := by
  unfold load
  simp only [Sem.runT, h]
  rfl
theorem add_mk (b off k : Nat) : (⟨b, off, none⟩ : Addr).add k = ⟨b, off + k, none⟩ := by
  unfold Addr.add
  split <;> simp_all

theorem rT_loadCellsFrom {b off : Nat} {c : Array Value} {e : TypeId} {fr : Nat × Nat} {pm : Perm} (h : w.heap[b]? = some (.cells c e fr)) (hp : pm.rd b) :
    ∀ (n i : Nat) (acc : Array Value) (es : Array Event), (∀ k, k < n → ∃ v, c[off + (i + k)]? = some v) →
      ∃ l es', (loadCellsFrom ⟨b, off, none⟩ i n acc).runT P w es = (.ok (acc ++ ⟨l⟩) w, es') ∧ EvLe pm es es' ∧ l.length = n ∧ ∀ k, k < n → l[k]? = c[off + (i + k)]?
  | 0, i, acc, es, _ => ⟨[], es, by simp [loadCellsFrom, rT_pure], .refl _ _, rfl, fun k hk => by omega⟩
  | n + 1, i, acc, es, hc => by
    obtain ⟨v, hv⟩ := hc 0 (by omega)
    obtain ⟨l, es', h1, h2, h3, h4⟩ := rT_loadCellsFrom (off := off) h hp n (i + 1) (acc.push v) (es.push ⟨.cell ⟨b, off + i, none⟩, false, false⟩) fun k hk => by
      obtain ⟨u, hu⟩ := hc (k + 1) (by omega)
      exact ⟨u, by rw [← hu]; congr 1; omega⟩
    refine ⟨v :: l, es', ?_, (EvLe.push (evIn_read hp)).trans h2, by simp [h3], fun k hk => ?_⟩
    · unfold loadCellsFrom
      rw [add_mk, rT_bind (rT_load (cell_of h (by simpa using hv))), h1]
      congr 2
      simp
    · cases k with
      | zero => simpa using hv.symm
      | succ k =>
        rw [List.getElem?_cons_succ, h4 k (by omega)]
        congr 1; omega

theorem rT_loadCells {b off n : Nat} {c : Array Value} {e : TypeId} {fr : Nat × Nat} {pm : Perm} (h : w.heap[b]? = some (.cells c e fr)) (hp : pm.rd b) (hc : ∀ k, k < n → ∃ v, c[off + k]? = some v) (es : Array Event) :
    ∃ l es', (loadCells ⟨b, off, none⟩ n).runT P w es = (.ok ⟨l⟩ w, es') ∧ EvLe pm es es' ∧ l.length = n ∧ ∀ k, k < n → l[k]? = c[off + k]? := by
  obtain ⟨l, es', h1, h2, h3, h4⟩ := rT_loadCellsFrom (P := P) h hp n 0 #[] es (fun k hk => by simpa using hc k hk)
  exact ⟨l, es', by unfold loadCells; rw [h1]; simp, h2, h3, fun k hk => by simpa using h4 k hk⟩

/-- the world with a block's cells laid anew -/
def setB (w : World) (b : Nat) (o : Obj) : World := { w with heap := w.heap.setIfInBounds b o }
theorem setB_same {b : Nat} {o o' : Obj} (h : w.heap[b]? = some o) : (setB w b o').heap[b]? = some o' := by
  have := (Array.getElem?_eq_some_iff.1 h).1
  simp [setB, this]
theorem setB_ne {b k : Nat} {o : Obj} (h : b ≠ k) : (setB w b o).heap[k]? = w.heap[k]? := by simp [setB, Array.getElem?_setIfInBounds_ne h]
theorem setB_size {b : Nat} {o : Obj} : (setB w b o).heap.size = w.heap.size := by simp [setB]

theorem setCell_setB {b off : Nat} {c : Array Value} {e : TypeId} {fr : Nat × Nat} {v : Value} (h : w.heap[b]? = some (.cells c e fr)) : w.setCell ⟨b, off, none⟩ v = setB w b (.cells (c.setIfInBounds off v) e fr) := by
  unfold World.setCell setB
  congr 1
  refine Array.ext_getElem? fun k => ?_
  rw [Array.getElem?_modify]
  by_cases hk : b = k
  · subst hk
    obtain ⟨hlt, hg⟩ := Array.getElem?_eq_some_iff.1 h
    simp [hlt, hg]
  · simp [hk, Array.getElem?_setIfInBounds_ne hk]

theorem rT_store {b off : Nat} {c : Array Value} {e : TypeId} {fr : Nat × Nat} {v x : Value} (h : w.heap[b]? = some (.cells c e fr)) (hx : c[off]? = some x) (hf : fr.2 ≤ fr.1) (hv : cellOk v = true) :
    (store ⟨b, off, none⟩ v).runT P w es = (.ok () (setB w b (.cells (c.setIfInBounds off v) e fr)), es.push ⟨.cell ⟨b, off, none⟩, true, false⟩) := by
  have hfr : w.frozen? ⟨b, off, none⟩ = false := by
    simp [World.frozen?, h]; omega
  unfold store
  cases v <;> first | (simp [cellOk] at hv; done) | (simp only [Sem.runT, cell_of h hx, hfr, setCell_setB h]; rfl)

theorem rT_storeCells {b off : Nat} {e : TypeId} {fr : Nat × Nat} {pm : Perm} (hp : pm.rd b) (hpw : pm.wr b) (hf : fr.2 ≤ fr.1) :
    ∀ (vs : List Value) (i : Nat) (w : World) (c : Array Value) (es : Array Event), w.heap[b]? = some (.cells c e fr) → off + i + vs.length ≤ c.size → cellsOk vs = true →
      ∃ c' es', (storeCells ⟨b, off, none⟩ vs i).runT P w es = (.ok () (setB w b (.cells c' e fr)), es') ∧ EvLe pm es es' ∧ c'.size = c.size ∧
        ∀ k, c'[k]? = if off + i ≤ k ∧ k < off + i + vs.length then vs[k - (off + i)]? else c[k]?
  | [], i, w, c, es, h, hc, hv => by
    refine ⟨c, es, ?_, .refl _ _, rfl, fun k => ?_⟩
    · have : setB w b (.cells c e fr) = w := by
        unfold setB
        obtain ⟨hlt, hg⟩ := Array.getElem?_eq_some_iff.1 h
        have e2 : w.heap.setIfInBounds b (.cells c e fr) = w.heap := by
          refine Array.ext_getElem? fun k => ?_
          by_cases hk : b = k
          · subst hk; simp [hlt, hg]
          · simp [Array.getElem?_setIfInBounds_ne hk]
        rw [e2]
      rw [this]; rfl
    · rw [if_neg (by simp only [List.length_nil]; omega)]
  | v :: vs, i, w, c, es, h, hc, hv => by
    simp only [List.length_cons] at hc
    simp only [cellsOk] at hv
    split at hv
    · rename_i hv1
      have hlt : off + i < c.size := by omega
      have hx : c[off + i]? = some c[off + i] := Array.getElem?_eq_getElem hlt
      have hs := rT_store (P := P) (es := es) h hx hf hv1
      have h' := setB_same (o' := .cells (c.setIfInBounds (off + i) v) e fr) h
      obtain ⟨c', es', h1, h2, h3, h4⟩ := rT_storeCells (off := off) hp hpw hf vs (i + 1) _ _ (es.push ⟨.cell ⟨b, off + i, none⟩, true, false⟩) h' (by simp; omega) hv
      refine ⟨c', es', ?_, (EvLe.push (evIn_write hp hpw)).trans h2, by simp [h3], fun k => ?_⟩
      · unfold storeCells
        rw [add_mk, rT_bind hs, h1]
        congr 2
        simp [setB]
      · rw [h4]
        by_cases hk : off + i = k
        · subst hk
          rw [if_neg (by omega), if_pos (by simp)]
          simp [hlt]
        · by_cases hk2 : off + i ≤ k ∧ k < off + i + (vs.length + 1)
          · rw [if_pos (by omega), if_pos (by simpa using hk2)]
            have e1 : k - (off + i) = (k - (off + (i + 1))) + 1 := by omega
            rw [e1, List.getElem?_cons_succ]
          · rw [if_neg (by omega), if_neg (by simpa using hk2), Array.getElem?_setIfInBounds_ne hk]
    · cases hv
end

end Go.Det
namespace Go.Det

theorem Perm.ext {p q : Perm} (h : ∀ b, p.rd b ↔ q.rd b) (h' : ∀ b, p.wr b ↔ q.wr b) : p = q := by
  obtain ⟨a, b⟩ := p
  obtain ⟨c, d⟩ := q
  have e1 : a = c := funext fun x => propext (h x)
  have e2 : b = d := funext fun x => propext (h' x)
  rw [e1, e2]
theorem Perm.grow_self (pm : Perm) (n : Nat) : pm.grow n n = pm := Perm.ext (fun b => ⟨fun h => h.elim id fun x => by omega, .inl⟩) (fun b => ⟨fun h => h.elim id fun x => by omega, .inl⟩)
theorem Perm.grow_grow (pm : Perm) {a b c : Nat} (h : a ≤ b) (h' : b ≤ c) : (pm.grow a b).grow b c = pm.grow a c := by
  refine Perm.ext (fun x => ?_) (fun x => ?_) <;> simp only [Perm.grow] <;> constructor
  · rintro ((h | h) | h)
    · exact .inl h
    · exact .inr ⟨h.1, by omega⟩
    · exact .inr ⟨by omega, h.2⟩
  · rintro (h | h)
    · exact .inl (.inl h)
    · by_cases hx : x < b
      · exact .inl (.inr ⟨h.1, hx⟩)
      · exact .inr ⟨by omega, h.2⟩
  · rintro ((h | h) | h)
    · exact .inl h
    · exact .inr ⟨h.1, by omega⟩
    · exact .inr ⟨by omega, h.2⟩
  · rintro (h | h)
    · exact .inl (.inl h)
    · by_cases hx : x < b
      · exact .inl (.inr ⟨h.1, hx⟩)
      · exact .inr ⟨by omega, h.2⟩

theorem ORel.mono {ρ ρ' : Ren} (h : ρ.le ρ') {m : Img} {o : AObj} {ro : Obj} (r : ORel ρ m o ro) : ORel ρ' m o ro := by
  cases o <;> cases ro <;> simp only [ORel] at r ⊢
  · obtain ⟨a, ⟨b⟩, c, d, e⟩ := r
    exact ⟨a, ⟨fun k v hk => let ⟨u, hu, hv⟩ := b k v hk; ⟨u, hu, hv.mono h⟩⟩, c, d, e⟩
  · exact ⟨r.1, r.2.1, fun k x y hx hy => ⟨(r.2.2 k x y hx hy).1.mono h, (r.2.2 k x y hx hy).2.mono h⟩⟩
  · exact r
  · exact r

theorem There.lt {ρ : Ren} {w : World} {pm : Perm} {m : Img} {o : AObj} (h : There ρ w pm m o) : m.b < w.heap.size := by
  cases o with
  | pipe => exact h
  | _ => obtain ⟨ro, h1, _⟩ := h; exact (Array.getElem?_eq_some_iff.1 h1).1
theorem There.get {ρ : Ren} {w : World} {pm : Perm} {m : Img} {o : AObj} (h : There ρ w pm m o) (hp : ∀ vs, o ≠ .pipe vs) : ∃ ro, w.heap[m.b]? = some ro ∧ ORel ρ m o ro ∧ pm.rd m.b ∧ (o.ro = false → pm.wr m.b) := by
  cases o with
  | pipe vs => exact absurd rfl (hp vs)
  | _ => exact h
theorem There.of {ρ : Ren} {w : World} {pm : Perm} {m : Img} {o : AObj} {ro : Obj} (h1 : w.heap[m.b]? = some ro) (h2 : ORel ρ m o ro) (h3 : pm.rd m.b) (h4 : o.ro = false → pm.wr m.b) : There ρ w pm m o := by
  cases o with
  | pipe => exact (Array.getElem?_eq_some_iff.1 h1).1
  | _ => exact ⟨ro, h1, h2, h3, h4⟩
theorem There.mono {ρ ρ' : Ren} {w w' : World} {pm pm' : Perm} {m : Img} {o : AObj} (hle : ρ.le ρ') (hs : w.heap.size ≤ w'.heap.size) (hb : w'.heap[m.b]? = w.heap[m.b]?) (hr : pm.rd m.b → pm'.rd m.b) (hw : pm.wr m.b → pm'.wr m.b) (h : There ρ w pm m o) : There ρ' w' pm' m o := by
  cases o with
  | pipe => exact Nat.lt_of_lt_of_le (show m.b < w.heap.size from h) hs
  | _ =>
    obtain ⟨ro, h1, h2, h3, h4⟩ := h
    exact ⟨ro, by rw [hb]; exact h1, h2.mono hle, hr h3, fun x => hw (h4 x)⟩

/-- what has become of a state -/
structure Eff (ρ : Ren) (h : Heap) (w : World) (pm : Perm) (n : Nat) (ρ' : Ren) (h' : Heap) (w' : World) (pm' : Perm) (n' : Nat) : Prop where
  le : ρ.le ρ'
  off : ∀ i, ¬ (n ≤ i ∧ i < n') → ρ' i = ρ i
  sim : Sim ρ' h' w' pm'
  size : w.heap.size ≤ w'.heap.size
  grow : pm' = pm.grow w.heap.size w'.heap.size
  world : w'.tape = w.tape ∧ w'.os = w.os ∧ w'.output = w.output
  old : ∀ b, b < w.heap.size → ¬ pm.wr b → w'.heap[b]? = w.heap[b]?
  frame : ∀ b, b < w.heap.size → (∀ i m o, ρ i = some m → h.get i = some o → o.ro = false → m.b ≠ b) → w'.heap[b]? = w.heap[b]?
  imgs : ∀ i m, n ≤ i → i < n' → ρ' i = some m → w.heap.size ≤ m.b ∨ ∃ j m0 o, ρ j = some m0 ∧ h.get j = some o ∧ o.ro = false ∧ m0.b = m.b
  hold : ∀ i, h.get i = none → ¬ (n ≤ i ∧ i < n') → h'.get i = none
  nle : n ≤ n'
  np : ∀ i m vs, ρ' i = some m → h'.get i = some (.pipe vs) → ρ i = some m ∧ h.get i = some (.pipe vs)
  kp : ∀ i m vs, ρ i = some m → h.get i = some (.pipe vs) → h'.get i = some (.pipe vs)
  ro : ∀ i m o o', ¬ (n ≤ i ∧ i < n') → ρ i = some m → h.get i = some o → o.ro = true → h'.get i = some o' → o'.ro = true

theorem Eff.refl {ρ : Ren} {h : Heap} {w : World} {pm : Perm} (S : Sim ρ h w pm) (n : Nat) : Eff ρ h w pm n ρ h w pm n :=
  ⟨fun _ _ e => e, fun _ _ => rfl, S, Nat.le_refl _, (Perm.grow_self _ _).symm, ⟨rfl, rfl, rfl⟩, fun _ _ _ => rfl, fun _ _ _ => rfl, fun i m a b => by omega, fun _ e _ => e, Nat.le_refl _, fun _ _ _ a b => ⟨a, b⟩, fun _ _ _ _ b => b, fun _ _ _ _ _ _ a b c => by rw [a] at c; cases c; exact b⟩

theorem Eff.trans {ρ ρ1 ρ2 : Ren} {h h1 h2 : Heap} {w w1 w2 : World} {pm pm1 pm2 : Perm} {n n1 n2 : Nat}
    (A : Eff ρ h w pm n ρ1 h1 w1 pm1 n1) (B : Eff ρ1 h1 w1 pm1 n1 ρ2 h2 w2 pm2 n2) : Eff ρ h w pm n ρ2 h2 w2 pm2 n2 := by
  have a1 := A.nle
  have b1 := B.nle
  have as := A.size
  have bs := B.size
  -- an image of the middle state, below the first one's size, is one of the first state's
  have mid : ∀ j m0 o, ρ1 j = some m0 → h1.get j = some o → o.ro = false → w.heap.size ≤ m0.b ∨ ∃ i m o, ρ i = some m ∧ h.get i = some o ∧ o.ro = false ∧ m.b = m0.b := by
    intro j m0 o e1 e2 er
    by_cases hj : n ≤ j ∧ j < n1
    · exact A.imgs j m0 hj.1 hj.2 e1
    · have e3 := A.off j hj
      cases e4 : h.get j with
      | none => rw [A.hold j e4 hj] at e2; cases e2
      | some o' =>
        have e5 : ρ j = some m0 := by rw [← e3]; exact e1
        refine .inr ⟨j, m0, o', e5, e4, ?_, rfl⟩
        cases hr : o'.ro with
        | false => rfl
        | true => rw [A.ro j m0 o' o hj e5 e4 hr e2] at er; cases er
  refine ⟨fun i m e => B.le i m (A.le i m e), fun i hi => ?_, B.sim, by omega, ?_, ?_, fun b hb hp => ?_, fun b hb hf => ?_, fun i m hi hi' e => ?_, fun i e hi => ?_, by omega, fun i m vs x y => let ⟨p, q⟩ := B.np i m vs x y; A.np i m vs p q, fun i m vs x y => B.kp i m vs (A.le i m x) (A.kp i m vs x y), fun i m o o' ni x y z u => ?_⟩
  · rw [B.off i (by omega), A.off i (by omega)]
  · rw [B.grow, A.grow, Perm.grow_grow _ as bs]
  · obtain ⟨x1, x2, x3⟩ := A.world
    obtain ⟨y1, y2, y3⟩ := B.world
    exact ⟨y1.trans x1, y2.trans x2, y3.trans x3⟩
  · rw [B.old b (by omega) (by rw [A.grow]; rintro (x | x); exact hp x; omega), A.old b hb hp]
  · rw [B.frame b (by omega) (fun j m0 o e1 e2 er e3 => ?_), A.frame b hb hf]
    rcases mid j m0 o e1 e2 er with x | ⟨i, m, o', x1, x2, x3, x4⟩
    · omega
    · exact hf i m o' x1 x2 x3 (x4.trans e3)
  · by_cases hi1 : i < n1
    · have e' : ρ1 i = some m := by rw [← B.off i (by omega)]; exact e
      exact A.imgs i m hi hi1 e'
    · rcases B.imgs i m (by omega) hi' e with x | ⟨j, m0, o, x1, x2, x3, x4⟩
      · exact .inl (by omega)
      · rcases mid j m0 o x1 x2 x3 with y | ⟨i', m', o', y1, y2, y3, y4⟩
        · exact .inl (by omega)
        · exact .inr ⟨i', m', o', y1, y2, y3, y4.trans x4⟩
  · exact B.hold i (A.hold i e (by omega)) (by omega)
  · cases e4 : h1.get i with
    | none => rw [B.hold i e4 (by omega)] at u; cases u
    | some o1 => exact B.ro i m o1 o' (by omega) (A.le i m x) e4 (A.ro i m o o1 (by omega) x y z e4) u

/-! ### a new block -/
def Ren.set (ρ : Ren) (n : Nat) (m : Img) : Ren := fun i => if i = n then some m else ρ i
theorem Ren.le_set {ρ : Ren} {n : Nat} {m : Img} (h : ρ n = none) : ρ.le (ρ.set n m) := fun i x e => by
  unfold Ren.set
  rw [if_neg (by rintro rfl; rw [h] at e; cases e)]
  exact e

theorem new_eff {ρ : Ren} {h h' : Heap} {w w' : World} {pm : Perm} {n : Nat} {o : AObj} {ob : Obj} (S : Sim ρ h w pm) (hn : ρ n = none) (e : hput h n o = some h')
    (hw : w'.heap = w.heap.push ob) (hw' : w'.tape = w.tape ∧ w'.os = w.os ∧ w'.output = w.output) {fx : Option (Nat × Nat)} (ho : ORel (ρ.set n ⟨w.heap.size, 0, fx⟩) ⟨w.heap.size, 0, fx⟩ o ob) (hp : ∀ vs, o ≠ .pipe vs := by intro _ h; cases h) :
    Eff ρ h w pm n (ρ.set n ⟨w.heap.size, 0, fx⟩) h' w' (pm.grow w.heap.size w'.heap.size) (Nat.succ n) := by
  have hs : w'.heap.size = w.heap.size + 1 := by rw [hw]; simp
  have hle := Ren.le_set (m := ⟨w.heap.size, 0, fx⟩) hn
  have low : ∀ b, b < w.heap.size → w'.heap[b]? = w.heap[b]? := fun b hb => by
    rw [hw, Array.getElem?_push]
    rw [if_neg (by omega)]
  have lt : ∀ i m o, ρ i = some m → h.get i = some o → m.b < w.heap.size := fun i m o e1 e2 => by
    exact (S.at' i m o e1 e2).lt
  have oth : ∀ i m, i ≠ n → (ρ.set n ⟨w.heap.size, 0, fx⟩) i = some m → ρ i = some m := fun i m hi e => by
    unfold Ren.set at e
    rwa [if_neg hi] at e
  refine ⟨hle, fun i hi => ?_, ⟨fun g hg => ?_, fun i m o' e1 e2 => ?_, fun i j m m' o1 o2 e1 e2 e3 e4 e5 => ?_⟩, by omega, rfl, hw', fun b hb _ => low b hb, fun b hb _ => low b hb, fun i m hi hi' e1 => ?_, fun i e1 hi => ?_, Nat.le_succ n, fun i m vs x y => ?_, fun i m vs x y => ?_, fun i m o1 o2 ni x y z u => ?_⟩
  · unfold Ren.set
    rw [if_neg (by omega)]
  · exact hle _ _ (S.glob g hg)
  · rw [hput_get e] at e2
    by_cases hi : i = n
    · subst hi
      rw [if_pos rfl] at e2
      cases e2
      have em : m = ⟨w.heap.size, 0, fx⟩ := by unfold Ren.set at e1; rw [if_pos rfl] at e1; cases e1; rfl
      subst em
      exact There.of (ro := ob) (by rw [hw]; simp) ho (.inr ⟨Nat.le_refl _, by rw [hs]; exact Nat.lt_succ_self _⟩) fun _ => .inr ⟨Nat.le_refl _, by rw [hs]; exact Nat.lt_succ_self _⟩
    · rw [if_neg hi] at e2
      have e1' := oth i m hi e1
      exact (S.at' i m o' e1' e2).mono hle (by omega) (low _ (lt i m o' e1' e2)) .inl .inl
  · rw [hput_get e] at e3 e4
    by_cases hi : i = n <;> by_cases hj : j = n
    · omega
    · subst hi
      rw [if_neg hj] at e4
      have := lt j m' o2 (oth j m' hj e2) e4
      have em : m = ⟨w.heap.size, 0, fx⟩ := by unfold Ren.set at e1; rw [if_pos rfl] at e1; cases e1; rfl
      subst em
      simp only at e5
      omega
    · subst hj
      rw [if_neg hi] at e3
      have := lt i m o1 (oth i m hi e1) e3
      have em : m' = ⟨w.heap.size, 0, fx⟩ := by unfold Ren.set at e2; rw [if_pos rfl] at e2; cases e2; rfl
      subst em
      simp only at e5
      omega
    · rw [if_neg hi] at e3
      rw [if_neg hj] at e4
      exact S.inj i j m m' o1 o2 (oth i m hi e1) (oth j m' hj e2) e3 e4 e5
  · have : i = n := by omega
    subst this
    have em : m = ⟨w.heap.size, 0, fx⟩ := by unfold Ren.set at e1; rw [if_pos rfl] at e1; cases e1; rfl
    subst em
    exact .inl (Nat.le_refl _)
  · rw [hput_get e, if_neg (by omega)]
    exact e1
  · rw [hput_get e] at y
    split at y
    · cases y; exact absurd rfl (hp vs)
    · rename_i hi
      exact ⟨oth i m hi x, y⟩
  · rw [hput_get e, if_neg (by rintro rfl; rw [hn] at x; cases x)]
    exact y
  · rw [hput_get e, if_neg (by omega), y] at u
    cases u; exact z

/-! ### a block laid anew -/
theorem set_eff {ρ : Ren} {h h' : Heap} {w : World} {pm : Perm} {n i : Nat} {m : Img} {o o' : AObj} {ob : Obj} (S : Sim ρ h w pm) (hi : ρ i = some m) (ho : h.get i = some o) (hro : o.ro = false)
    (e : hput h i o' = some h') (hb : ORel ρ m o' ob) (hp : ∀ vs, o' ≠ .pipe vs := by intro _ h; cases h) : Eff ρ h w pm n ρ h' (setB w m.b ob) pm n := by
  obtain ⟨ro0, h1, h2, h3, h4⟩ := (S.at' i m o hi ho).get (by rintro vs rfl; cases hro)
  refine ⟨fun _ _ e => e, fun _ _ => rfl, ⟨S.glob, fun j mj oj e1 e2 => ?_, fun j k mj mk oj ok e1 e2 e3 e4 e5 => ?_⟩, by rw [setB_size]; exact Nat.le_refl _, by rw [setB_size, Perm.grow_self], ⟨rfl, rfl, rfl⟩,
    fun b _ hp => setB_ne (by rintro rfl; exact hp (h4 hro)), fun b _ hf => setB_ne (hf i m o hi ho hro), fun _ _ a b => by omega, fun j e1 hj => ?_, Nat.le_refl _, fun j m' vs x y => ?_, fun j m' vs x y => ?_, fun j m' o1 o2 _ x y z u => ?_⟩
  · rw [hput_get e] at e2
    by_cases hj : j = i
    · subst hj
      rw [if_pos rfl] at e2
      cases e2
      rw [hi] at e1
      cases e1
      exact There.of (setB_same h1) hb h3 fun _ => h4 hro
    · rw [if_neg hj] at e2
      exact (S.at' j mj oj e1 e2).mono (fun _ _ e => e) (by rw [setB_size]; exact Nat.le_refl _) (setB_ne (fun hb => hj (S.inj j i mj m oj o e1 hi e2 ho hb.symm))) id id
  · rw [hput_get e] at e3 e4
    have f : ∀ x (ox : AObj), (if x = i then some o' else Tr.get h x) = some ox → ∃ oy, h.get x = some oy := fun x ox ex => by
      by_cases hx : x = i
      · subst hx; exact ⟨o, ho⟩
      · rw [if_neg hx] at ex; exact ⟨ox, ex⟩
    obtain ⟨oj', f1⟩ := f j oj e3
    obtain ⟨ok', f2⟩ := f k ok e4
    exact S.inj j k mj mk oj' ok' e1 e2 f1 f2 e5
  · rw [hput_get e, if_neg (by rintro rfl; rw [ho] at e1; cases e1)]
    exact e1
  · rw [hput_get e] at y
    split at y
    · cases y; exact absurd rfl (hp vs)
    · exact ⟨x, y⟩
  · have : j ≠ i := by
      rintro rfl
      rw [ho] at y
      cases y
      cases hro
    rw [hput_get e, if_neg this]
    exact y
  · rw [hput_get e] at u
    split at u
    · rename_i hj; subst hj; rw [ho] at y; cases y; rw [hro] at z; cases z
    · rw [y] at u; cases u; exact z

/-! ### what an operation does -/
def OpVal (P : Program) (ρ : Ren) (h : Heap) (w : World) (pm : Perm) (n : Nat) (s : Sem Next) (v : Value) (h' : Heap) (n' : Nat) : Prop :=
  ∃ u w' es ρ' pm', s.runT P w #[] = (.ok (.value u) w', es) ∧ VRel ρ' v u ∧ Eff ρ h w pm n ρ' h' w' pm' n' ∧ EvLe pm' #[] es
def OpSkip (P : Program) (ρ : Ren) (h : Heap) (w : World) (pm : Perm) (n : Nat) (s : Sem Next) (h' : Heap) (n' : Nat) : Prop :=
  ∃ w' es ρ' pm', s.runT P w #[] = (.ok .skip w', es) ∧ Eff ρ h w pm n ρ' h' w' pm' n' ∧ EvLe pm' #[] es

section
variable {P : Program} {ρ : Ren} {h h' : Heap} {w w' : World} {pm : Perm} {n n' : Nat}

theorem rT_v {s : Sem Value} {u : Value} {es es' : Array Event} (e : s.runT P w es = (.ok u w', es')) : (do pure (Next.value (← s)) : Sem Next).runT P w es = (.ok (.value u) w', es') := by
  rw [rT_bind e]; rfl
theorem rT_u {s : Sem Unit} {es es' : Array Event} (e : s.runT P w es = (.ok () w', es')) : (do s; pure .skip : Sem Next).runT P w es = (.ok .skip w', es') := by
  rw [rT_bind e]; rfl
/-- a value, and nothing has turned -/
theorem opv_still (S : Sim ρ h w pm) {s : Sem Next} {v u : Value} {es : Array Event} (e : s.runT P w #[] = (.ok (.value u) w, es)) (r : VRel ρ v u) (he : EvLe pm #[] es) : OpVal P ρ h w pm n s v h n :=
  ⟨u, w, es, ρ, pm, e, r, Eff.refl S n, he⟩
theorem opv_pure (S : Sim ρ h w pm) {s : Sem Value} {v u : Value} (e : s.runT P w #[] = (.ok u w, #[])) (r : VRel ρ v u) : OpVal P ρ h w pm n (do pure (Next.value (← s))) v h n :=
  opv_still S (rT_v e) r (.refl _ _)

theorem EvIn.grow {pm : Perm} {a b : Nat} {x : Event} (y : EvIn pm x) : EvIn (pm.grow a b) x := by
  obtain ⟨loc, wr, sy⟩ := x
  cases loc with
  | cell a => exact ⟨.inl y.1, fun z => .inl (y.2.1 z), y.2.2⟩
  | obj r => exact ⟨.inl y.1, fun z => .inl (y.2.1 z), y.2.2⟩
  | mark m => exact y
  | output => exact y
  | goroutines => exact y
theorem EvLe.grow {pm : Perm} {a b : Nat} {es es' : Array Event} (y : EvLe pm es es') : EvLe (pm.grow a b) es es' := fun x hx => (y x hx).imp id EvIn.grow

theorem new_val (S : Sim ρ h w pm) (hn : ρ n = none) {o : AObj} {ob : Obj} {fx : Option (Nat × Nat)} (e : hput h n o = some h') {s : Sem Next} {v : Value} {u : Value} {es : Array Event}
    (hw : w'.heap = w.heap.push ob) (hw' : w'.tape = w.tape ∧ w'.os = w.os ∧ w'.output = w.output) (er : s.runT P w #[] = (.ok (.value u) w', es)) (he : EvLe pm #[] es)
    (ho : ORel (ρ.set n ⟨w.heap.size, 0, fx⟩) ⟨w.heap.size, 0, fx⟩ o ob) (hv : VRel (ρ.set n ⟨w.heap.size, 0, fx⟩) v u) (hp : ∀ vs, o ≠ .pipe vs := by intro _ h; cases h) : OpVal P ρ h w pm n s v h' (Nat.succ n) :=
  ⟨u, w', es, _, _, er, hv, new_eff S hn e hw hw' ho hp, he.grow⟩
end

end Go.Det
namespace Go.Det

theorem addA_eq {a b : Addr} {k : Nat} (e : addA a k = some b) : ∃ i off, a = ⟨i, off, none⟩ ∧ b = ⟨i, off + k, none⟩ := by
  obtain ⟨i, off, s⟩ := a
  cases s with
  | some _ => simp [addA] at e
  | none =>
    simp only [addA, nat!_eq, Option.some.injEq] at e
    exact ⟨i, off, rfl, e.symm⟩
theorem addP_eq {a : Addr} {k : Nat} {v : Value} (e : addP a k = some v) : ∃ i off, a = ⟨i, off, none⟩ ∧ v = .pointer (some ⟨i, off + k, none⟩) := by
  obtain ⟨i, off, s⟩ := a
  cases s with
  | some _ => simp [addP] at e
  | none =>
    simp only [addP, nat!_eq, Option.some.injEq] at e
    exact ⟨i, off, rfl, e.symm⟩
theorem ptr_inv {ρ : Ren} {i off : Nat} {u : Value} (r : VRel ρ (.pointer (some ⟨i, off, none⟩)) u) : ∃ m, ρ i = some m ∧ u = .pointer (some ⟨m.b, m.s + off, none⟩) := by
  cases r with
  | ptr e => exact ⟨_, e, rfl⟩
theorem ptr_spot {ρ : Ren} {A : Addr} {u : Value} (r : VRel ρ (.pointer (some A)) u) : ∃ i off m, A = ⟨i, off, none⟩ ∧ ρ i = some m ∧ u = .pointer (some ⟨m.b, m.s + off, none⟩) := by
  cases r with
  | ptr e => exact ⟨_, _, _, rfl, e, rfl⟩
theorem slice_inv {ρ : Ren} {A : Addr} {l c : Nat} {u : Value} (r : VRel ρ (.slice (some A) l c) u) : ∃ i off m c', A = ⟨i, off, none⟩ ∧ ρ i = some m ∧ CapOk m off c c' ∧ u = .slice (some ⟨m.b, m.s + off, none⟩) l c' := by
  cases r with
  | slice e h => exact ⟨_, _, _, _, rfl, e, h, rfl⟩
theorem natOf_rel {ρ : Ren} {v u : Value} {n : Nat} (e : natOf v = some n) (r : VRel ρ v u) : ∃ k, u = .int k (n : Int) := by
  cases v <;> simp [natOf] at e
  rename_i k m
  cases m <;> simp [natOf] at e
  subst e
  cases r
  exact ⟨k, rfl⟩
theorem rT_asInt {P : Program} {w : World} {es : Array Event} {k : IntKind} {n : Int} : (asInt (.int k n)).runT P w es = (.ok n w, es) := rfl
theorem rT_asIntOf {P : Program} {w : World} {es : Array Event} {k : IntKind} {n : Int} : (asIntOf (.int k n)).runT P w es = (.ok (k, n) w, es) := rfl

section
variable {P : Program} {T : Tbl} (K : TblOk P T) {ρ : Ren} {h : Heap} {w : World} {pm : Perm} (S : Sim ρ h w pm)
include S

/-- an abstract row's cells, in truth -/
theorem row_of {i : Nat} {m : Img} {el : Nat} {cs : List Value} {fx : Option Nat} {ro : Bool} (hi : ρ i = some m) (hg : h.get i = some (.cells el cs fx ro)) :
    ∃ c fr, w.heap[m.b]? = some (.cells c el fr) ∧ Cells ρ m cs c ∧ (fx = none → m.fx = none ∧ m.s = 0 ∧ c.size = cs.length) ∧ (∀ sz, fx = some sz → ∃ R, m.fx = some (sz, R) ∧ c.size = m.s + R ∧ cs.length ≤ R) ∧
      (ro = false → fr.2 ≤ fr.1) ∧ pm.rd m.b ∧ (ro = false → pm.wr m.b) := by
  obtain ⟨o, h1, h2, h3, h4⟩ := (S.at' i m _ hi hg).get (by intro _ h; cases h)
  cases o <;> simp only [ORel] at h2
  rename_i c e fr
  obtain ⟨rfl, a, b, c', d⟩ := h2
  exact ⟨c, fr, h1, a, b, c', d, h3, h4⟩

theorem loadN_rel {i off k : Nat} {m : Img} {cs : List Value} (hi : ρ i = some m) (e : loadN h ⟨i, off, none⟩ k = some cs) (es : Array Event) :
    ∃ l es', (loadCells ⟨m.b, m.s + off, none⟩ k).runT P w es = (.ok ⟨l⟩ w, es') ∧ EvLe pm es es' ∧ VRels ρ cs l ∧ cs.length = k := by
  simp only [loadN] at e
  split at e
  · rename_i el row fx ro hg
    obtain ⟨c, fr, h1, h2, _, _, _, h3, _⟩ := row_of S hi hg
    obtain ⟨l1, l2⟩ := cellsAt_get e
    have some1 : ∀ j, j < k → ∃ v, row[off + j]? = some v := fun j hj => by
      rw [← l2 j hj]
      exact ⟨_, List.getElem?_eq_getElem (by omega)⟩
    obtain ⟨l, es', r1, r2, r3, r4⟩ := rT_loadCells (P := P) (off := m.s + off) (n := k) h1 h3 (fun j hj => by
      obtain ⟨v, hv⟩ := some1 j hj
      obtain ⟨u, hu, _⟩ := h2.get _ v hv
      exact ⟨u, by rw [← hu]; congr 1; omega⟩) es
    refine ⟨l, es', r1, r2, ⟨by omega, fun j v u hv hu => ?_⟩, l1⟩
    have hj : j < k := by
      have := (List.getElem?_eq_some_iff.1 hv).1
      omega
    rw [l2 j hj] at hv
    rw [r4 j hj] at hu
    obtain ⟨u', hu', hr⟩ := h2.get _ v hv
    have : u' = u := by
      rw [show m.s + (off + j) = m.s + off + j from by omega, hu] at hu'
      exact (Option.some.inj hu').symm
    rw [← this]; exact hr
  · cases e

include K
theorem loadT_rel {t i off : Nat} {m : Img} {v : Value} (hi : ρ i = some m) (e : loadT T h t ⟨i, off, none⟩ = some v) (es : Array Event) :
    ∃ u es', (loadVar t ⟨m.b, m.s + off, none⟩).runT P w es = (.ok u w, es') ∧ EvLe pm es es' ∧ VRel ρ v u := by
  unfold loadT shapeT at e
  cases ht : T.ty t with
  | none => rw [ht] at e; cases e
  | some ti =>
    rw [ht] at e
    cases ha : ti.agg with
    | true =>
      simp only [ha] at e
      split at e
      · rename_i cs hcs
        cases e
        obtain ⟨l, es', r1, r2, r3, _⟩ := loadN_rel (P := P) S hi hcs es
        refine ⟨.agg ⟨l⟩, es', ?_, r2, .agg r3.len r3.get⟩
        unfold loadVar
        rw [rT_bind (rT_isAgg K ht), ha]
        simp only [if_true]
        rw [rT_bind (rT_sizeOf K ht), rT_bind r1]
        rfl
      · cases e
    | false =>
      simp only [ha] at e
      split at e
      · rename_i x hcs
        cases e
        obtain ⟨l, es', r1, r2, r3, _⟩ := loadN_rel (P := P) S hi hcs es
        -- one cell
        simp only [loadN] at hcs
        split at hcs
        · rename_i el row fx ro hg
          obtain ⟨c, fr, h1, h2, _, _, _, h3, _⟩ := row_of S hi hg
          obtain ⟨l1, l2⟩ := cellsAt_get hcs
          have hx : row[off]? = some v := by
            have := l2 0 (by omega)
            simpa using this.symm
          obtain ⟨u, hu, hr⟩ := h2.get _ v hx
          refine ⟨u, es.push ⟨.cell ⟨m.b, m.s + off, none⟩, false, false⟩, ?_, EvLe.push (evIn_read h3), hr⟩
          unfold loadVar
          rw [rT_bind (rT_isAgg K ht), ha]
          exact rT_load (cell_of h1 hu)
        · cases hcs
      · cases e
end

/-! ### the operations, one by one -/
section
variable {P : Program} {T : Tbl} (K : TblOk P T) {ρ : Ren} {h h' : Heap} {w : World} {pm : Perm} (S : Sim ρ h w pm) {nt n n' : Nat} {tm : Tmps} {a : Act} (R : TRel ρ nt tm a) {o : Oper}
include S R

theorem s_move {x : Operand} {v : Value} (ho : o.op = .move x) (e : ev tm x = some v) : OpVal P ρ h w pm n (execOp a.eval o) v h n := by
  simp only [execOp, ho]
  exact opv_still S (rT_pure _) (ev_rel S.glob R e) (.refl _ _)
theorem s_assign {x : Operand} {v : Value} (ho : o.op = .assign x) (e : ev tm x = some v) : OpVal P ρ h w pm n (execOp a.eval o) v h n := by
  simp only [execOp, ho]
  exact opv_still S (rT_pure _) (ev_rel S.glob R e) (.refl _ _)
theorem s_pick {c x y : Operand} {v : Value} (ho : o.op = .pick c x y) (e : oPick tm c x y = some v) : OpVal P ρ h w pm n (execOp a.eval o) v h n := by
  simp only [execOp, ho]
  unfold oPick at e
  split at e
  · rename_i hc
    have r := ev_rel S.glob R hc
    generalize hq : a.eval c = q at r
    cases r
    exact opv_still S (by rw [rT_bind (x := asBool (.bool true)) (a := true) rfl]; rfl) (ev_rel S.glob R e) (.refl _ _)
  · rename_i hc
    have r := ev_rel S.glob R hc
    generalize hq : a.eval c = q at r
    cases r
    exact opv_still S (by rw [rT_bind (x := asBool (.bool false)) (a := false) rfl]; rfl) (ev_rel S.glob R e) (.refl _ _)
  · cases e

theorem s_nilCheck {x : Operand} {v : Value} (ho : o.op = .nilCheck x) (e : oNilCheck (ev tm x) = some v) : OpVal P ρ h w pm n (execOp a.eval o) v h n := by
  simp only [execOp, ho]
  unfold oNilCheck at e
  split at e
  · rename_i A hc
    have r := ev_rel S.glob R hc
    cases e
    obtain ⟨i, off, m, rfl, hi, hu⟩ := ptr_spot r
    rw [hu] at r ⊢
    exact opv_still S (rT_pure _) r (.refl _ _)
  · rename_i f x y hc
    have r := ev_rel S.glob R hc
    cases e
    generalize hq : a.eval _ = q at r
    cases r with
    | func l1 g1 l2 g2 => exact opv_still S (rT_pure _) (.func l1 g1 l2 g2) (.refl _ _)
  · cases e

include K
theorem s_load {t : Nat} {x : Operand} {v : Value} (ho : o.op = .load t x) (e : oLoad T t h (ev tm x) = some v) : OpVal P ρ h w pm n (execOp a.eval o) v h n := by
  simp only [execOp, ho]
  unfold oLoad at e
  split at e
  · rename_i A hc
    obtain ⟨i, off, m, rfl, hi, hu⟩ := ptr_spot (ev_rel S.glob R hc)
    obtain ⟨u, es', r1, r2, r3⟩ := loadT_rel K S hi e #[]
    refine opv_still S (rT_v (u := u) (es' := es') ?_) r3 r2
    unfold Instr.loadAt
    rw [hu, rT_bind (x := Instr.sureAddr _) (a := ⟨m.b, m.s + off, none⟩) rfl]
    exact r1
  · cases e
theorem s_fieldAddr {s f : Nat} {x : Operand} {v : Value} (ho : o.op = .fieldAddr s x f) (e : oFieldAddr T s f (ev tm x) = some v) : OpVal P ρ h w pm n (execOp a.eval o) v h n := by
  simp only [execOp, ho]
  unfold oFieldAddr at e
  split at e
  · rename_i A hc
    obtain ⟨i, off, m, rfl, hi, hu⟩ := ptr_spot (ev_rel S.glob R hc)
    split at e
    · rename_i fo hfo
      obtain ⟨i', off', e1, rfl⟩ := addP_eq e
      cases e1
      unfold fieldOff fieldT at hfo
      cases ht : T.ty s with
      | none => rw [ht] at hfo; cases hfo
      | some ti =>
        rw [ht] at hfo
        simp only at hfo
        cases hd : ti.desc <;> rw [hd] at hfo <;> simp only at hfo <;> first | (cases hfo; done) | skip
        rename_i fs
        cases hf : fs[f]? with
        | none => rw [hf] at hfo; cases hfo
        | some fd =>
          rw [hf] at hfo
          simp only at hfo
          unfold sizeT at hfo
          cases hft : T.ty fd.type with
          | none => rw [hft] at hfo; cases hfo
          | some fi =>
            rw [hft] at hfo
            simp only at hfo
            cases hsz : fi.size with
            | zero => rw [hsz] at hfo; cases hfo
            | succ k =>
              rw [hsz] at hfo
              cases hfo
              refine opv_pure S (u := .pointer (some ⟨m.b, m.s + off + fd.offset, none⟩)) ?_ (by rw [Nat.add_assoc]; exact .ptr hi)
              unfold Instr.fieldAt
              rw [rT_bind (rT_desc K ht), hd]
              simp only [hf]
              rw [hu, rT_bind (x := Instr.sureAddr _) (a := ⟨m.b, m.s + off, none⟩) rfl]
              rw [rT_bind (x := fieldPlace _ fd) (a := ⟨m.b, m.s + off + fd.offset, none⟩) (es' := #[])]
              · rfl
              · unfold fieldPlace
                rw [rT_bind (rT_sizeOf K hft), hsz]
                simp only [Nat.succ_ne_zero, if_false]
                rw [add_mk]
                rfl
    · cases e
  · cases e
end

end Go.Det
namespace Go.Det

/-! ### tables, read -/
section
variable {T : Tbl} {t : Nat}
theorem elemT_inv {e sz by' : Nat} (h : elemT T t = some (e, sz, by')) : ∃ ti te, T.ty t = some ti ∧ ti.desc = .slice e ∧ T.ty e = some te ∧ te.size = sz ∧ te.bytes = by' := by
  unfold elemT at h
  cases ht : T.ty t with
  | none => rw [ht] at h; cases h
  | some ti =>
    rw [ht] at h
    dsimp only at h
    cases hd : ti.desc <;> rw [hd] at h <;> simp only at h <;> first | (cases h; done) | skip
    rename_i e'
    cases he : T.ty e' with
    | none => rw [he] at h; cases h
    | some te => rw [he] at h; cases h; exact ⟨ti, te, rfl, hd, he, rfl, rfl⟩
theorem arrT_inv {k e sz : Nat} (h : arrT T t = some (k, e, sz)) : ∃ ti te, T.ty t = some ti ∧ ti.desc = .array k e ∧ T.ty e = some te ∧ te.size = sz := by
  unfold arrT at h
  cases ht : T.ty t with
  | none => rw [ht] at h; cases h
  | some ti =>
    rw [ht] at h
    dsimp only at h
    cases hd : ti.desc <;> rw [hd] at h <;> simp only at h <;> first | (cases h; done) | skip
    rename_i k' e'
    cases he : T.ty e' with
    | none => rw [he] at h; cases h
    | some te => rw [he] at h; cases h; exact ⟨ti, te, rfl, hd, he, rfl⟩
theorem fieldT_inv {f ft off : Nat} (h : fieldT T t f = some (ft, off)) : ∃ ti fs fd, T.ty t = some ti ∧ ti.desc = .struct fs ∧ fs[f]? = some fd ∧ fd.type = ft ∧ fd.offset = off := by
  unfold fieldT at h
  cases ht : T.ty t with
  | none => rw [ht] at h; cases h
  | some ti =>
    rw [ht] at h
    dsimp only at h
    cases hd : ti.desc <;> rw [hd] at h <;> simp only at h <;> first | (cases h; done) | skip
    rename_i fs
    cases hf : fs[f]? with
    | none => rw [hf] at h; cases h
    | some fd => rw [hf] at h; cases h; exact ⟨ti, fs, fd, rfl, hd, hf, rfl, rfl⟩
theorem sizeT_inv {n : Nat} (h : sizeT T t = some n) : ∃ ti, T.ty t = some ti ∧ ti.size = n := by
  unfold sizeT at h
  cases ht : T.ty t with
  | none => rw [ht] at h; cases h
  | some ti => rw [ht] at h; cases h; exact ⟨ti, rfl, rfl⟩
theorem descT_inv {d : TypeDesc} (h : descT T t = some d) : ∃ ti, T.ty t = some ti ∧ ti.desc = d := by
  unfold descT at h
  cases ht : T.ty t with
  | none => rw [ht] at h; cases h
  | some ti => rw [ht] at h; cases h; exact ⟨ti, rfl, rfl⟩
theorem zeroT_inv {z : List Value} (h : zeroT T t = some z) : ∃ ti, T.ty t = some ti ∧ ti.zero = z := by
  unfold zeroT at h
  cases ht : T.ty t with
  | none => rw [ht] at h; cases h
  | some ti => rw [ht] at h; cases h; exact ⟨ti, rfl, rfl⟩
end

theorem cells_list (v : Value) : v.cells.toList = vcells v := by cases v <;> rfl
theorem afrees_rel {ρ : Ren} {l : List Value} (h : afrees l = true) : VRels ρ l l := ⟨rfl, fun k v u hv hu => by rw [hv] at hu; cases hu; exact afree_rel (afrees_get l h k v hv)⟩

theorem rT_newRow {P : Program} {w : World} {es : Array Event} {e : Nat} {c : Array Value} : (newRow e c).runT P w es = (.ok ⟨w.heap.size, 0, none⟩ { w with heap := w.heap.push (.cells c e) }, es) := rfl
theorem orel_new {ρ : Ren} {b el : Nat} {cs : List Value} {c : Array Value} {ro : Bool} (h : VRels ρ cs c.toList) : ORel ρ ⟨b, 0, none⟩ (.cells el cs none ro) (.cells c el) := by
  refine ⟨rfl, ⟨fun k v hk => ?_⟩, fun _ => ⟨rfl, rfl, ?_⟩, (fun x hx => by cases hx), fun _ => Nat.le_refl _⟩
  · obtain ⟨u, hu, hr⟩ := h.at' hk
    exact ⟨u, by simpa using hu, hr⟩
  · have := h.len
    simpa using this.symm

section
variable {P : Program} {T : Tbl} (K : TblOk P T) {ρ : Ren} {h h' : Heap} {w : World} {pm : Perm} (S : Sim ρ h w pm) {nt n n' : Nat} {tm : Tmps} {a : Act} (R : TRel ρ nt tm a) {o : Oper}

theorem newA_inv {ob : AObj} {u v : Value} (e : newA h n ob u = some (.val v h' n')) : hput h n ob = some h' ∧ v = u ∧ n' = Nat.succ n := by
  unfold newA at e
  split at e
  · rename_i h1 hp
    rw [nat!_eq] at e
    cases e
    exact ⟨hp, rfl, rfl⟩
  · cases e

include S
/-- a new row of cells, and a value that points to it -/
theorem new_row (hn : ρ n = none) {el : Nat} {cs : List Value} {c : Array Value} {v u : Value} {s : Sem Next} (e : hput h n (.cells el cs none false) = some h') (hc : VRels ρ cs c.toList)
    (er : s.runT P w #[] = (.ok (.value u) { w with heap := w.heap.push (.cells c el) }, #[])) (hv : VRel (ρ.set n ⟨w.heap.size, 0, none⟩) v u) : OpVal P ρ h w pm n s v h' (Nat.succ n) :=
  new_val S hn e (w' := { w with heap := w.heap.push (.cells c el) }) rfl ⟨rfl, rfl, rfl⟩ er (.refl _ _) (orel_new (hc.mono (Ren.le_set hn))) hv

include K
theorem s_alloc {t : Nat} {v : Value} (ho : o.op = .alloc t) (hn : ρ n = none) (e : allocA h n t (zeroT T t) = some (.val v h' n')) : OpVal P ρ h w pm n (execOp a.eval o) v h' n' := by
  simp only [execOp, ho]
  unfold allocA at e
  split at e
  · rename_i z hz
    obtain ⟨ti, ht, rfl⟩ := zeroT_inv hz
    obtain ⟨e1, rfl, rfl⟩ := newA_inv e
    obtain ⟨z, hz1, hz2, _⟩ := rT_zero K ht
    refine new_row S hn e1 (c := z.cells) (u := .pointer (some ⟨w.heap.size, 0, none⟩)) (by rw [cells_list, hz2]; exact afrees_rel (K.ty _ _ ht).free) (rT_v ?_) ?_
    · unfold Instr.alloc
      rw [rT_bind (hz1 w #[])]
      simp only []
      unfold newVar
      rw [rT_bind rT_newRow]
      rfl
    · exact .ptr (m := ⟨w.heap.size, 0, none⟩) (by simp [Ren.set])
  · cases e
include R
theorem s_box {t : Nat} {x : Operand} {v : Value} (ho : o.op = .box t x) (hn : ρ n = none) (e : boxA h n t (ev tm x) = some (.val v h' n')) : OpVal P ρ h w pm n (execOp a.eval o) v h' n' := by
  simp only [execOp, ho]
  unfold boxA at e
  split at e
  · rename_i y hy
    obtain ⟨e1, rfl, rfl⟩ := newA_inv e
    refine new_row S hn e1 (c := (a.eval x).cells) (u := .pointer (some ⟨w.heap.size, 0, none⟩)) (ev_rel S.glob R hy).cells (rT_v ?_) ?_
    · unfold Instr.box newVar
      rw [rT_bind rT_newRow]
      rfl
    · exact .ptr (m := ⟨w.heap.size, 0, none⟩) (by simp [Ren.set])
  · cases e

/-! parts laid into a row -/
omit K S R in
/-- the model's own way of laying a part down -/
theorem laid_part : ∀ (vs : List Value) (s off : Nat) (acc : Array Value), off + s + vs.length ≤ acc.size →
    let r := (vs.zipIdx s).foldl (fun cs (x : Value × Nat) => cs.setIfInBounds (off + x.2) x.1) acc
    r.size = acc.size ∧ ∀ k, r[k]? = if off + s ≤ k ∧ k < off + s + vs.length then vs[k - (off + s)]? else acc[k]?
  | [], s, off, acc, _ => by
    refine ⟨rfl, fun k => ?_⟩
    rw [if_neg (by simp only [List.length_nil]; omega)]
    rfl
  | v :: vs, s, off, acc, hb => by
    simp only [List.length_cons] at hb
    have hlt : off + s < acc.size := by omega
    obtain ⟨h1, h2⟩ := laid_part vs (s + 1) off (acc.setIfInBounds (off + s) v) (by simp; omega)
    refine ⟨by simpa using h1, fun k => ?_⟩
    simp only [List.zipIdx_cons, List.foldl_cons]
    rw [h2]
    by_cases hk : off + s = k
    · subst hk
      rw [if_neg (by omega), if_pos (by simp)]
      simp [hlt]
    · by_cases hk2 : off + s ≤ k ∧ k < off + s + (vs.length + 1)
      · rw [if_pos (by omega), if_pos (by simpa using hk2)]
        have e1 : k - (off + s) = (k - (off + (s + 1))) + 1 := by omega
        rw [e1, List.getElem?_cons_succ]
      · rw [if_neg (by omega), if_neg (by simpa using hk2), Array.getElem?_setIfInBounds_ne hk]

omit K S R in
theorem fill_rel {place place' : Nat → Option (Nat × Nat)} (hpl : ∀ i p, place i = some p → place' i = some p) : ∀ (ps : List (Nat × Value)) (qs : List (Nat × Value)) (cs cs' : List Value) (c : Array Value), ps.map (·.1) = qs.map (·.1) → VRels ρ (ps.map (·.2)) (qs.map (·.2)) →
    VRels ρ cs c.toList → fillL place cs ps = some cs' → ∃ c', Instr.fill place' c qs = some c' ∧ VRels ρ cs' c'.toList
  | [], [], cs, cs', c, _, _, hc, e => by simp only [fillL, Option.some.injEq] at e; subst e; exact ⟨c, rfl, hc⟩
  | [], _ :: _, _, _, _, hm, _, _, _ => by simp at hm
  | _ :: _, [], _, _, _, hm, _, _, _ => by simp at hm
  | (i, v) :: ps, (i', u) :: qs, cs, cs', c, hm, hv, hc, e => by
    simp only [List.map_cons, List.cons.injEq] at hm hv
    obtain ⟨rfl, hm⟩ := hm
    obtain ⟨u', qs', e1, hr, hrs⟩ := hv.cons_inv
    simp only [List.cons.injEq] at e1
    obtain ⟨rfl, rfl⟩ := e1
    simp only [fillL] at e
    split at e
    · rename_i off size hp
      split at e
      · rename_i hb
        split at e
        · rename_i cs1 hput
          have hlen : (vcells v).length = size := by
            have := Nat.eq_of_beq_eq_true hb
            rw [lenL_eq] at this
            omega
          have hcl := hr.cells
          have hul : u.cells.size = size := by
            have := hcl.len
            simp at this
            omega
          obtain ⟨p1, p2, p3⟩ := putAt_get hput
          have hcs : cs.length = c.size := by simpa using hc.len
          obtain ⟨q1, q2⟩ := laid_part u.cells.toList 0 off c (by simp; omega)
          obtain ⟨c', f1, f2⟩ := fill_rel (place := place) (place' := place') hpl ps qs cs1 cs' (((u.cells.toList.zipIdx 0).foldl (fun cs (x : Value × Nat) => cs.setIfInBounds (off + x.2) x.1) c)) hm hrs ⟨by simp; omega, fun k x y hx hy => by
            rw [p3] at hx
            have hy' : ((u.cells.toList.zipIdx 0).foldl (fun cs (x : Value × Nat) => cs.setIfInBounds (off + x.2) x.1) c)[k]? = some y := by simpa using hy
            rw [q2] at hy'
            by_cases hk : off ≤ k ∧ k < off + (vcells v).length
            · rw [if_pos hk] at hx
              rw [if_pos (by simp; omega)] at hy'
              exact hcl.get _ x y hx (by simpa using hy')
            · rw [if_neg hk] at hx
              rw [if_neg (by simp; omega)] at hy'
              exact hc.get k x y hx (by simpa using hy')⟩ e
          refine ⟨c', ?_, f2⟩
          unfold Instr.fill
          rw [hpl _ _ hp]
          simp only []
          rw [if_neg (by simp; omega)]
          rw [← f1]
          congr 1
          rw [← Array.foldl_toList]
          simp [Array.toList_zipIdx]
        · cases e
      · cases e
    · cases e

theorem evParts_rel : ∀ {xs : List (Nat × Operand)} {ps : List (Nat × Value)}, evParts tm xs = some ps → ps.map (·.1) = (xs.map fun (i, x) => (i, a.eval x)).map (·.1) ∧ VRels ρ (ps.map (·.2)) ((xs.map fun (i, x) => (i, a.eval x)).map (·.2))
  | [], ps, e => by simp [evParts] at e; subst e; exact ⟨rfl, .nil⟩
  | (i, x) :: r, ps, e => by
    simp only [evParts] at e
    split at e
    · cases e
    · rename_i v hv
      split at e
      · cases e
      · rename_i s hs
        cases e
        obtain ⟨h1, h2⟩ := evParts_rel hs
        exact ⟨by simp only [List.map_cons, h1], .cons (ev_rel S.glob R hv) h2⟩

omit R in
theorem rT_sizes {w : World} {es : Array Event} (fs : List Field) (hf : ∀ fd ∈ fs, ∃ i, T.ty fd.type = some i) :
    (fs.mapM (m := Sem) fun f => do pure (f.offset, ← sizeOf f.type)).runT P w es = (.ok (fs.map fun f => (f.offset, ((T.ty f.type).map (·.size)).getD 0)) w, es) := by
  induction fs with
  | nil => simp [List.mapM_nil, rT_pure]
  | cons f fs ih =>
    obtain ⟨i, hi⟩ := hf f (by simp)
    rw [List.mapM_cons, rT_bind (x := (do pure (f.offset, ← sizeOf f.type) : Sem (Nat × Nat))) (a := (f.offset, i.size)) (es' := es) (w' := w) (by rw [rT_bind (rT_sizeOf K hi)]; rfl),
      rT_bind (ih fun fd hfd => hf fd (by simp [hfd]))]
    simp [hi, rT_pure]

omit K S R in
/-- the true row is as long as the abstract one reaches -/
theorem row_size {m : Img} {cs : List Value} {c : Array Value} {fx : Option Nat} (h3 : fx = none → m.fx = none ∧ m.s = 0 ∧ c.size = cs.length) (h4 : ∀ sz, fx = some sz → ∃ R, m.fx = some (sz, R) ∧ c.size = m.s + R ∧ cs.length ≤ R) :
    m.s + cs.length ≤ c.size := by
  cases fx with
  | none => obtain ⟨_, a2, a3⟩ := h3 rfl; omega
  | some sz => obtain ⟨R', _, a2, a3⟩ := h4 sz rfl; omega
omit S K R in
theorem cellsOk_rel {l l' : List Value} (r : VRels ρ l l') (hk : cellsOk l = true) : cellsOk l' = true := by
  induction l generalizing l' with
  | nil => rw [r.nil_inv]; rfl
  | cons x xs ih =>
    obtain ⟨u, us, rfl, q1, q2⟩ := r.cons_inv
    simp only [cellsOk] at hk ⊢
    split at hk
    · rename_i hx1
      have : cellOk u = true := by cases q1 <;> first | rfl | (simp [cellOk] at hx1)
      rw [this]
      exact ih q2 hk
    · cases hk
omit K R in
theorem storeN_rel {i off : Nat} {m : Img} {vs us : List Value} (hi : ρ i = some m) (e : storeN h ⟨i, off, none⟩ vs = some h') (hr : VRels ρ vs us) (es : Array Event) :
    ∃ w' es', (storeCells ⟨m.b, m.s + off, none⟩ us).runT P w es = (.ok () w', es') ∧ Eff ρ h w pm n ρ h' w' pm n ∧ EvLe pm es es' := by
  simp only [storeN] at e
  split at e
  · rename_i el row fx hg
    split at e
    · rename_i row' hok hput
      obtain ⟨c, fr, h1, h2, h3, h4, h5, h6, h7⟩ := row_of S hi hg
      obtain ⟨p1, p2, p3⟩ := putAt_get hput
      have hsize := row_size h3 h4
      have hl := hr.len
      obtain ⟨c', es', r1, r2, r3, r4⟩ := rT_storeCells (P := P) (off := m.s + off) h6 (h7 rfl) (h5 rfl) us 0 w c es h1 (by omega) (cellsOk_rel hr hok)
      refine ⟨setB w m.b (.cells c' el fr), es', r1, set_eff S hi hg rfl e ?_, r2⟩
      refine ⟨rfl, ⟨fun k x hk => ?_⟩, fun hfx => ?_, fun sz hfx => ?_, fun _ => h5 rfl⟩
      · rw [p3] at hk
        rw [r4]
        by_cases hq : off ≤ k ∧ k < off + vs.length
        · rw [if_pos hq] at hk
          rw [if_pos (by omega)]
          obtain ⟨u, hu1, hu2⟩ := hr.at' hk
          exact ⟨u, by rw [← hu1]; congr 1; omega, hu2⟩
        · rw [if_neg hq] at hk
          rw [if_neg (by omega)]
          exact h2.get k x hk
      · obtain ⟨a1, a2, a3⟩ := h3 hfx
        exact ⟨a1, a2, by omega⟩
      · obtain ⟨R', a1, a2, a3⟩ := h4 sz hfx
        exact ⟨R', a1, by omega, by omega⟩
    · cases e
  · cases e

theorem s_store {t : Nat} {x y : Operand} (ho : o.op = .store t x y) (e : oStore T t h (ev tm x) (ev tm y) = some h') : OpSkip P ρ h w pm n (execOp a.eval o) h' n := by
  simp only [execOp, ho]
  unfold oStore at e
  split at e
  · rename_i A v hc hy
    obtain ⟨i, off, m, rfl, hi, hu⟩ := ptr_spot (ev_rel S.glob R hc)
    have hr := (ev_rel S.glob R hy).cells
    split at e
    · rename_i sz hsz
      obtain ⟨ti, ht, rfl⟩ := sizeT_inv hsz
      split at e
      · rename_i hb
        have hlen : (vcells v).length = ti.size := by
          have := Nat.eq_of_beq_eq_true hb
          rw [lenL_eq] at this
          omega
        obtain ⟨w', es', r1, r2, r3⟩ := storeN_rel (P := P) (n := n) S hi e hr #[]
        refine ⟨w', es', ρ, pm, rT_u (w' := w') (es' := es') ?_, r2, r3⟩
        unfold Instr.storeAt
        rw [hu, rT_bind (x := Instr.sureAddr _) (a := ⟨m.b, m.s + off, none⟩) rfl]
        unfold storeVar
        rw [rT_bind (rT_sizeOf K ht)]
        have hcs : (a.eval y).cells.size = ti.size := by
          have : (a.eval y).cells.toList.length = (a.eval y).cells.size := by simp
          have := hr.len
          omega
        simp only [hcs, ne_eq, not_true_eq_false, if_false]
        exact r1
      · cases e
    · cases e
  · cases e
end

end Go.Det
namespace Go.Det

section
variable {P : Program} {T : Tbl} (K : TblOk P T) {ρ : Ren} {h h' : Heap} {w : World} {pm : Perm} (S : Sim ρ h w pm) {nt n n' : Nat} {tm : Tmps} {a : Act} (R : TRel ρ nt tm a) {o : Oper}
include K S R

theorem s_build {t : Nat} {ps : Array (Nat × Operand)} {v : Value} (ho : o.op = .build t ps) (e : oBuild T tm t ps.toList = some v) : OpVal P ρ h w pm n (execOp a.eval o) v h n := by
  simp only [execOp, ho]
  unfold oBuild at e
  split at e
  · rename_i z qs hz hqs
    obtain ⟨ti, ht, rfl⟩ := zeroT_inv hz
    obtain ⟨zv, hz1, hz2, _⟩ := rT_zero K ht
    obtain ⟨m1, m2⟩ := evParts_rel (T := T) K S R hqs
    have hzc : VRels ρ ti.zero zv.cells.toList := by rw [cells_list, hz2]; exact afrees_rel (K.ty _ _ ht).free
    have hd : descT T t = some ti.desc := by simp [descT, ht]
    rw [hd] at e
    have harr : (ps.map fun (i, x) => (i, a.eval x)).toList = ps.toList.map fun (i, x) => (i, a.eval x) := by simp
    cases hdd : ti.desc <;> rw [hdd] at e <;> dsimp only at e <;> first | (cases e; done) | skip
    · -- an array
      rename_i len el
      split at e
      · rename_i sz hsz
        obtain ⟨te, hte, rfl⟩ := sizeT_inv hsz
        split at e
        · rename_i cs hcs
          cases e
          obtain ⟨c', f1, f2⟩ := fill_rel (ρ := ρ) (fun _ _ e => e) qs _ _ _ _ m1 m2 hzc hcs
          refine opv_pure S (u := .agg c') ?_ (by obtain ⟨c'⟩ := c'; exact .agg f2.len f2.get)
          unfold Instr.build
          rw [rT_bind (hz1 w #[]), rT_bind (rT_desc K ht), hdd]
          dsimp only
          rw [rT_bind (rT_sizeOf K hte), harr]
          have f1' : Instr.fill (fun i => some (i * te.size, te.size)) zv.cells (ps.toList.map fun (i, x) => (i, a.eval x)) = some c' := f1
          rw [f1']
          rfl
        · cases e
      · cases e
    · -- a struct
      rename_i fs
      split at e
      · rename_i hfs
        have hok : ∀ fd ∈ fs.toList, ∃ i, T.ty fd.type = some i := by
          have : ∀ l : List Field, fieldsOk T l = true → ∀ fd ∈ l, ∃ i, T.ty fd.type = some i := by
            intro l
            induction l with
            | nil => intro _ fd hfd; cases hfd
            | cons f r ih =>
              intro hl fd hfd
              simp only [fieldsOk] at hl
              split at hl
              · rename_i i hi
                rcases List.mem_cons.1 hfd with rfl | hfd
                · exact ⟨i, hi⟩
                · exact ih hl fd hfd
              · cases hl
          exact this _ hfs
        split at e
        · rename_i cs hcs
          cases e
          have hpl : ∀ i p, placeS T t i = some p → ((fs.toList.map fun f => (f.offset, ((T.ty f.type).map (·.size)).getD 0)).toArray)[i]? = some p := by
            intro i p hp
            unfold placeS at hp
            split at hp
            · rename_i ft off hf
              obtain ⟨ti', fs', fd, h1, h2, h3, rfl, rfl⟩ := fieldT_inv hf
              rw [ht] at h1
              cases h1
              rw [hdd] at h2
              cases h2
              split at hp
              · rename_i sz hsz
                obtain ⟨te, hte, rfl⟩ := sizeT_inv hsz
                cases hp
                have h3' : fs.toList[i]? = some fd := by simpa using h3
                simp [h3', h3, hte]
              · cases hp
            · cases hp
          obtain ⟨c', f1, f2⟩ := fill_rel (ρ := ρ) hpl qs _ _ _ _ m1 m2 hzc hcs
          refine opv_pure S (u := .agg c') ?_ (by obtain ⟨c'⟩ := c'; exact .agg f2.len f2.get)
          unfold Instr.build
          rw [rT_bind (hz1 w #[]), rT_bind (rT_desc K ht), hdd]
          dsimp only
          rw [Array.mapM_eq_mapM_toList]
          rw [rT_bind (x := (List.toArray <$> (fs.toList.mapM (m := Sem) fun f => do pure (f.offset, ← sizeOf f.type)))) (a := (fs.toList.map fun f => (f.offset, ((T.ty f.type).map (·.size)).getD 0)).toArray) (w' := w) (es' := #[])]
          · rw [harr]
            have f1' : Instr.fill (fun i => ((fs.toList.map fun f => (f.offset, ((T.ty f.type).map (·.size)).getD 0)).toArray)[i]?) zv.cells (ps.toList.map fun (i, x) => (i, a.eval x)) = some c' := f1
            rw [f1']
            rfl
          · rw [← bind_pure_comp, rT_bind (rT_sizes (P := P) K S fs.toList hok)]
            rfl
        · cases e
      · cases e
  · cases e

theorem part_rel {t off : Nat} {cs : List Value} {c : Array Value} {v : Value} (hc : VRels ρ cs c.toList) (e : partA T t cs off = some v) : ∃ u, (∀ es, (part t c off).runT P w es = (.ok u w, es)) ∧ VRel ρ v u := by
  unfold partA shapeT at e
  cases ht : T.ty t with
  | none => rw [ht] at e; cases e
  | some ti =>
    rw [ht] at e
    cases ha : ti.agg with
    | true =>
      simp only [ha] at e
      split at e
      · rename_i l hl
        cases e
        obtain ⟨l1, l2⟩ := cellsAt_get hl
        obtain ⟨b1, _⟩ := cellsAt_eq hl
        have hcs : cs.length = c.size := by simpa using hc.len
        refine ⟨.agg (c.extract off (off + ti.size)), fun es => ?_, ?_⟩
        · unfold part
          rw [rT_bind (rT_isAgg K ht), ha]
          simp only [if_true]
          rw [rT_bind (rT_sizeOf K ht)]
          rfl
        · have hx : c.extract off (off + ti.size) = ⟨(c.toList.drop off).take ti.size⟩ := by
            apply Array.ext'
            simp [Array.toList_extract, List.extract_eq_take_drop]
          rw [hx]
          refine .agg (by simp; omega) fun k x y hxk hyk => ?_
          have hk : k < ti.size := by
            have := (List.getElem?_eq_some_iff.1 hxk).1
            omega
          rw [l2 k hk] at hxk
          rw [List.getElem?_take_of_lt hk, List.getElem?_drop] at hyk
          exact hc.get _ x y hxk hyk
      · cases e
    | false =>
      simp only [ha] at e
      rw [getL_eq] at e
      obtain ⟨u, hu, hr⟩ := hc.at' e
      refine ⟨u, fun es => ?_, hr⟩
      unfold part
      rw [rT_bind (rT_isAgg K ht), ha]
      have : c[off]? = some u := by simpa using hu
      simp only [Bool.false_eq_true, if_false, this]
      rfl
theorem s_field {s f : Nat} {x : Operand} {v : Value} (ho : o.op = .field s x f) (e : oField T s f (ev tm x) = some v) : OpVal P ρ h w pm n (execOp a.eval o) v h n := by
  simp only [execOp, ho]
  unfold oField at e
  split at e
  · rename_i cs hx
    have r := ev_rel S.glob R hx
    split at e
    · rename_i ft off hf
      obtain ⟨ti, fs, fd, h1, h2, h3, rfl, rfl⟩ := fieldT_inv hf
      generalize hq : a.eval x = q at r
      cases r with
      | agg l g =>
        rename_i b b'
        obtain ⟨u, hu, hr⟩ := part_rel (P := P) (w := w) K S R (c := ⟨b'⟩) ⟨l, g⟩ e
        refine opv_pure S (u := u) ?_ hr
        unfold Instr.field
        rw [rT_bind (rT_desc K h1), h2]
        dsimp only
        rw [h3]
        dsimp only
        rw [rT_bind (x := asAgg (.agg ⟨b'⟩)) (a := ⟨b'⟩) rfl]
        exact hu #[]
    · cases e
  · cases e

theorem s_makeInterface {t : Nat} {x : Operand} {v : Value} (ho : o.op = .makeInterface t x) (e : ifaceV T t (ev tm x) = some v) : OpVal P ρ h w pm n (execOp a.eval o) v h n := by
  simp only [execOp, ho]
  unfold ifaceV at e
  split at e
  · rename_i y hy
    split at e
    · cases e
    · rename_i hi
      cases e
      unfold isIface at hi
      split at hi
      · cases hi
      · rename_i d hne hd
        obtain ⟨ti, ht, rfl⟩ := descT_inv hd
        refine opv_pure S (u := .iface t (a.eval x)) ?_ (.iface (ev_rel S.glob R hy))
        unfold Instr.makeInterface
        rw [rT_bind (rT_desc K ht)]
        cases hdd : ti.desc <;> first | rfl | (exact absurd hdd (hne _))
      · cases hi
  · cases e
theorem s_makeFunc {f : Fn} {x y : Array Operand} {v : Value} (ho : o.op = .makeFunc f x y) (e : funcV f (evs tm x.toList) (evs tm y.toList) = some v) : OpVal P ρ h w pm n (execOp a.eval o) v h n := by
  simp only [execOp, ho]
  unfold funcV at e
  split at e
  · rename_i b c hb hc
    cases f <;> dsimp only at e <;> first | (cases e; done) | skip
    cases e
    have r1 := evs_rel S.glob R hb
    have r2 := evs_rel S.glob R hc
    refine opv_pure S (u := .func (.func _) (x.map a.eval) (y.map a.eval)) rfl ?_
    have e1 : x.map a.eval = ⟨x.toList.map a.eval⟩ := by apply Array.ext'; simp
    have e2 : y.map a.eval = ⟨y.toList.map a.eval⟩ := by apply Array.ext'; simp
    rw [e1, e2]
    exact .func r1.len r1.get r2.len r2.get
  · cases e
theorem s_extract {x : Operand} {i : Nat} {v : Value} (ho : o.op = .extract x i) (e : oExtract i (ev tm x) = some v) : OpVal P ρ h w pm n (execOp a.eval o) v h n := by
  simp only [execOp, ho]
  unfold oExtract at e
  split at e
  · rename_i vs hx
    have r := ev_rel S.glob R hx
    rw [getL_eq] at e
    generalize hq : a.eval x = q at r
    cases r with
    | tuple l g =>
      rename_i b b'
      obtain ⟨u, hu, hr⟩ := VRels.at' ⟨l, g⟩ e
      refine opv_pure S (u := u) ?_ hr
      unfold Instr.extract
      have : (Array.mk b')[i]? = some u := by simpa using hu
      simp only [this]
      rfl
  · cases e
theorem s_typeAssert {x : Operand} {y t : Nat} {ok : Bool} {v : Value} (ho : o.op = .typeAssert x y t ok) (e : oAssert T t ok (ev tm x) = some v) : OpVal P ρ h w pm n (execOp a.eval o) v h n := by
  simp only [execOp, ho]
  unfold oAssert at e
  split at e
  · rename_i u z hx
    have r := ev_rel S.glob R hx
    split at e
    · rename_i hi hb
      have hut : u = t := Nat.eq_of_beq_eq_true hb
      cases e
      unfold isIface at hi
      split at hi
      · cases hi
      · rename_i d hne hd
        obtain ⟨ti, ht, rfl⟩ := descT_inv hd
        generalize hq : a.eval x = q at r
        cases r with
        | iface r =>
          rename_i z'
          refine opv_pure S (u := bif ok then .tuple #[z', .bool true] else z') ?_ ?_
          · unfold Instr.typeAssert
            rw [rT_bind (rT_desc K ht)]
            cases hdd : ti.desc <;> first | (exact absurd hdd (hne _)) | (cases ok <;> simp [hut, rT_pure, pure])
          · cases ok with
            | true =>
              have : VRels ρ [z, .bool true] [z', .bool true] := .cons r (.cons (.bool _) .nil)
              exact .tuple this.len this.get
            | false => exact r
      · cases hi
    · cases e
  · cases e

theorem s_indexAddr {t : Nat} {x y : Operand} {v : Value} (ho : o.op = .indexAddr t x y) (e : oIndexAddr T t (ev tm x) (ev tm y) = some v) : OpVal P ρ h w pm n (execOp a.eval o) v h n := by
  simp only [execOp, ho]
  unfold oIndexAddr at e
  split at e
  · rename_i A len c iv hx hy
    obtain ⟨i, off, m, c', rfl, hi, hcap, hu⟩ := slice_inv (ev_rel S.glob R hx)
    have ri := ev_rel S.glob R hy
    split at e
    · rename_i el sz by' k he hk
      obtain ⟨ti, te, ht, hd, hte, rfl, _⟩ := elemT_inv he
      obtain ⟨kk, hkk⟩ := natOf_rel hk ri
      split at e
      · rename_i hb
        have hlt := lt_of_blt hb
        obtain ⟨i', off', e1, rfl⟩ := addP_eq e
        cases e1
        refine opv_pure S (u := .pointer (some ⟨m.b, m.s + off + k * te.size, none⟩)) ?_ (by rw [Nat.add_assoc]; exact .ptr hi)
        unfold Instr.indexAt
        rw [hkk, hu, rT_bind rT_asIntOf]
        dsimp only
        rw [rT_bind (rT_desc K ht), hd]
        dsimp only
        rw [rT_bind (rT_pure _)]
        rw [rT_bind (rT_desc K ht), hd]
        dsimp only
        have hc : (0 : Int) ≤ (k : Int) ∧ (k : Int) < (len : Int) := ⟨by omega, by omega⟩
        rw [if_pos hc, rT_bind (rT_sizeOf K hte), Int.toNat_natCast, add_mk]
        rfl
      · cases e
    · cases e
  · rename_i A iv hx hy
    obtain ⟨i, off, m, rfl, hi, hu⟩ := ptr_spot (ev_rel S.glob R hx)
    have ri := ev_rel S.glob R hy
    split at e
    · rename_i len el sz k he hk
      obtain ⟨ti, te, ht, hd, hte, rfl⟩ := arrT_inv he
      obtain ⟨kk, hkk⟩ := natOf_rel hk ri
      split at e
      · rename_i hb
        have hlt := lt_of_blt hb
        obtain ⟨i', off', e1, rfl⟩ := addP_eq e
        cases e1
        refine opv_pure S (u := .pointer (some ⟨m.b, m.s + off + k * te.size, none⟩)) ?_ (by rw [Nat.add_assoc]; exact .ptr hi)
        unfold Instr.indexAt
        rw [hkk, hu, rT_bind rT_asIntOf]
        dsimp only
        rw [rT_bind (rT_desc K ht), hd]
        dsimp only
        rw [rT_bind (x := Instr.sureAddr _) (a := ⟨m.b, m.s + off, none⟩) rfl]
        rw [rT_bind (rT_pure _)]
        rw [rT_bind (rT_desc K ht), hd]
        dsimp only
        have hc : (0 : Int) ≤ (k : Int) ∧ (k : Int) < (len : Int) := ⟨by omega, by omega⟩
        rw [if_pos hc, rT_bind (rT_sizeOf K hte), Int.toNat_natCast, add_mk]
        rfl
      · cases e
    · cases e
  · cases e
end

end Go.Det
namespace Go.Det

theorem intV_eq {k : IntKind} {n : Int} {v : Value} (e : intV k n = some v) : v = .int k (k.wrap n) := by
  unfold intV at e
  rw [int!_eq, wrapF_eq] at e
  cases e; rfl
theorem boolV_eq {b : Bool} {v : Value} (e : boolV b = some v) : v = .bool b := by
  unfold boolV at e
  rw [bool!_eq] at e
  cases e; rfl
theorem nz_ne {b : Int} (h : nz b = true) : b ≠ 0 := by
  rintro rfl
  simp [nz] at h

theorem rT_eqGuard_int {P : Program} {w : World} {es : Array Event} {op : BinOp} {t : Nat} {x y : Operand} {k l : IntKind} {a b : Int} : (eqGuard op t x y (.int k a) (.int l b)).runT P w es = (.ok () w, es) := by
  cases op <;> rfl

section
variable {P : Program} {T : Tbl} (K : TblOk P T) {ρ : Ren} {h h' : Heap} {w : World} {pm : Perm} (S : Sim ρ h w pm) {nt n n' : Nat} {tm : Tmps} {a : Act} (R : TRel ρ nt tm a) {o : Oper}

theorem binInt_run {op : BinOp} {t : Nat} {k l : IntKind} {x y : Int} {v : Value} {es : Array Event} (e : binInt P op t k l x y = some v) : (binOp op t (.int k x) (.int l y)).runT P w es = (.ok v w, es) ∧ VRel ρ v v := by
  have cnd : ∀ {c : Bool} {z : Option Value}, (bif c then z else none) = some v → c = true ∧ z = some v := fun {c z} hc => by
    cases c
    · cases hc
    · exact ⟨rfl, hc⟩
  have bw : ∀ (q : Bool), (.ok (.bool q) w, es) = ((.ok (.bool q) w, es) : Result Value × Array Event) := fun _ => rfl
  cases op with
  | add =>
    obtain ⟨hk, e2⟩ := cnd e
    obtain rfl := (kindEq_eq _ _).1 hk
    obtain rfl := intV_eq e2
    exact ⟨by first | (simp [binOp, Op.intArith, rT_pure]; done) | (simp [binOp, Op.intArith, rT_pure]; rfl), .int _ _⟩
  | sub =>
    obtain ⟨hk, e2⟩ := cnd e
    obtain rfl := (kindEq_eq _ _).1 hk
    obtain rfl := intV_eq e2
    exact ⟨by first | (simp [binOp, Op.intArith, rT_pure]; done) | (simp [binOp, Op.intArith, rT_pure]; rfl), .int _ _⟩
  | mul =>
    obtain ⟨hk, e2⟩ := cnd e
    obtain rfl := (kindEq_eq _ _).1 hk
    obtain rfl := intV_eq e2
    exact ⟨by first | (simp [binOp, Op.intArith, rT_pure]; done) | (simp [binOp, Op.intArith, rT_pure]; rfl), .int _ _⟩
  | quo =>
    obtain ⟨hk, e2⟩ := cnd e
    rw [Bool.and_eq_true] at hk
    obtain rfl := (kindEq_eq _ _).1 hk.1
    have hn := nz_ne hk.2
    obtain rfl := intV_eq e2
    exact ⟨by simp [binOp, Op.intDiv, hn, rT_pure], .int _ _⟩
  | rem =>
    obtain ⟨hk, e2⟩ := cnd e
    rw [Bool.and_eq_true] at hk
    obtain rfl := (kindEq_eq _ _).1 hk.1
    have hn := nz_ne hk.2
    rw [int!_eq] at e2
    cases e2
    exact ⟨by simp [binOp, Op.intDiv, hn, rT_pure], .int _ _⟩
  | eql =>
    obtain ⟨hk, e2⟩ := cnd e
    obtain rfl := (kindEq_eq _ _).1 hk
    obtain rfl := boolV_eq e2
    rw [eqI_eq]
    exact ⟨by simp [binOp, Op.intCmp, rT_pure], .bool _⟩
  | neq =>
    obtain ⟨hk, e2⟩ := cnd e
    obtain rfl := (kindEq_eq _ _).1 hk
    obtain rfl := boolV_eq e2
    rw [eqI_eq]
    exact ⟨by simp [binOp, Op.intCmp, rT_pure, bne], .bool _⟩
  | lss =>
    obtain ⟨hk, e2⟩ := cnd e
    obtain rfl := (kindEq_eq _ _).1 hk
    obtain rfl := boolV_eq e2
    rw [ltI_eq]
    exact ⟨by simp [binOp, Op.intCmp, rT_pure], .bool _⟩
  | leq =>
    obtain ⟨hk, e2⟩ := cnd e
    obtain rfl := (kindEq_eq _ _).1 hk
    obtain rfl := boolV_eq e2
    rw [ltI_eq]
    refine ⟨?_, .bool _⟩
    have : (!decide (y < x)) = decide (x ≤ y) := by rw [Bool.eq_iff_iff]; simp
    simp [binOp, Op.intCmp, rT_pure, this]
  | gtr =>
    obtain ⟨hk, e2⟩ := cnd e
    obtain rfl := (kindEq_eq _ _).1 hk
    obtain rfl := boolV_eq e2
    rw [ltI_eq]
    exact ⟨by simp [binOp, Op.intCmp, rT_pure], .bool _⟩
  | geq =>
    obtain ⟨hk, e2⟩ := cnd e
    obtain rfl := (kindEq_eq _ _).1 hk
    obtain rfl := boolV_eq e2
    rw [ltI_eq]
    refine ⟨?_, .bool _⟩
    have : (!decide (x < y)) = decide (x ≥ y) := by rw [Bool.eq_iff_iff]; simp
    simp [binOp, Op.intCmp, rT_pure, this]
  | shl =>
    simp only [binInt] at e
    cases hq : (nz y && ltI y (.ofNat 0)) with
    | true => rw [hq] at e; cases e
    | false =>
      rw [hq] at e
      simp only [cond] at e
      split at e
      · rename_i q m hs
        rw [int!_eq] at e
        cases e
        exact ⟨pureRun_eq P _ _ hs w es, .int _ _⟩
      · cases e
  | shr =>
    simp only [binInt] at e
    split at e
    · rename_i q m hs
      rw [int!_eq] at e
      cases e
      exact ⟨pureRun_eq P _ _ hs w es, .int _ _⟩
    · cases e
  | and | or | xor | andNot =>
    simp only [binInt] at e
    split at e
    · rename_i q m hs
      rw [int!_eq] at e
      cases e
      exact ⟨pureRun_eq P _ _ hs w es, .int _ _⟩
    · cases e

include S
theorem addrEq_rel {A B A' B' : Addr} {e : Bool} (ha : addrEq A B = some e) (r : VRel ρ (.pointer (some A)) (.pointer (some A'))) (r' : VRel ρ (.pointer (some B)) (.pointer (some B'))) : A'.block = B'.block ∧ (A' == B') = e := by
  obtain ⟨i, off, m, rfl, hi, hu⟩ := ptr_spot r
  obtain ⟨j, off', m', rfl, hj, hu'⟩ := ptr_spot r'
  cases hu; cases hu'
  simp only [addrEq] at ha
  split at ha
  · rename_i hb
    have : i = j := Nat.eq_of_beq_eq_true hb
    subst this
    rw [hi] at hj
    cases hj
    cases ha
    refine ⟨rfl, ?_⟩
    rw [Bool.eq_iff_iff]
    simp
  · cases ha

omit S in
theorem eqGuard_opd {op : BinOp} {t : Nat} {X Y X' Y' : Operand} {x y : Value} (hx : isNilI x = false) : eqGuard op t X Y x y = eqGuard op t X' Y' x y := by
  unfold eqGuard
  cases x <;> first | rfl | (cases y <;> rfl) | (exact absurd hx (by simp [isNilI]))

omit S in
theorem equal_unfold {t : Nat} {d : TypeDesc} {x y : Value} (hd : P.underlying t = some d) : ∀ es, (Op.equal t x y).runT P w es = (Op.equalIn (9999 + 1) t x y).runT P w es := fun _ => rfl

include K
theorem eqRef_run {op : BinOp} {t : Nat} {x y x' y' : Value} {e : Bool} {X Y : Operand} (he : eqRef (eqT T t) x y = some e) (rx : VRel ρ x x') (ry : VRel ρ y y') :
    (∀ es, (eqGuard op t X Y x' y').runT P w es = (.ok () w, es)) ∧ (∀ es, (Op.equal t x' y').runT P w es = (.ok e w, es)) ∧
      (binOp .eql t x' y' = do pure (.bool (← Op.equal t x' y'))) ∧ (binOp .neq t x' y' = do pure (.bool (!(← Op.equal t x' y')))) := by
  have hty : ∀ k, eqT T t = k → (k = 1 → ∃ e, P.underlying t = some (.slice e)) ∧ (k = 2 → ∃ e te, P.underlying t = some (.pointer e) ∧ T.ty e = some te ∧ te.size ≠ 0) ∧ (k = 3 → ∃ a b c, P.underlying t = some (.func a b c)) := by
    rintro k rfl
    unfold eqT
    cases hd : descT T t with
    | none => simp
    | some d =>
      obtain ⟨ti, ht, rfl⟩ := descT_inv hd
      have hu := (K.ty t ti ht).under
      cases hdd : ti.desc <;> simp [hu, hdd]
      split <;> simp
      rename_i el _ m hs
      obtain ⟨te, hte, hsz⟩ := sizeT_inv hs
      exact ⟨te, hte, by omega⟩
  unfold eqRef at he
  split at he
  · -- a slice against nil
    split at he
    · rename_i h1
      obtain ⟨el, hu⟩ := (hty _ h1).1 rfl
      cases he
      cases ry
      refine ⟨fun es => by cases rx <;> cases op <;> rfl, fun es => ?_, by cases rx <;> rfl, by cases rx <;> rfl⟩
      rw [equal_unfold hu]
      unfold Op.equalIn
      rw [rT_bind (rT_underlying hu)]
      cases rx <;> rfl
    · cases he
  · split at he
    · rename_i h1
      obtain ⟨el, hu⟩ := (hty _ h1).1 rfl
      cases he
      cases rx
      refine ⟨fun es => by cases ry <;> cases op <;> rfl, fun es => ?_, by cases ry <;> rfl, by cases ry <;> rfl⟩
      rw [equal_unfold hu]
      unfold Op.equalIn
      rw [rT_bind (rT_underlying hu)]
      cases ry <;> rfl
    · cases he
  · split at he
    · rename_i h1
      obtain ⟨el, te, hu, hte, hsz⟩ := (hty _ h1).2.1 rfl
      cases he
      cases ry
      refine ⟨fun es => by cases rx <;> cases op <;> rfl, fun es => ?_, by cases rx <;> rfl, by cases rx <;> rfl⟩
      rw [equal_unfold hu]
      unfold Op.equalIn
      rw [rT_bind (rT_underlying hu)]
      cases rx <;> rfl
    · cases he
  · split at he
    · rename_i h1
      obtain ⟨el, te, hu, hte, hsz⟩ := (hty _ h1).2.1 rfl
      obtain ⟨i, off, m, rfl, hi, rfl⟩ := ptr_spot rx
      obtain ⟨j, off', m', rfl, hj, rfl⟩ := ptr_spot ry
      obtain ⟨hb, heq⟩ := addrEq_rel S he rx ry
      refine ⟨fun es => by cases op <;> rfl, fun es => ?_, rfl, rfl⟩
      rw [equal_unfold hu]
      unfold Op.equalIn
      rw [rT_bind (rT_underlying hu)]
      dsimp only
      rw [rT_bind (rT_sizeOf K hte)]
      simp only [ne_eq, hsz, not_false_eq_true, if_true]
      unfold sameAddr
      simp only at hb
      simp only [hb, beq_self_eq_true, if_true]
      rw [hb] at heq
      rw [heq]
      rfl
    · cases he
  · split at he
    · rename_i h1
      obtain ⟨a', b', c', hu⟩ := (hty _ h1).2.2 rfl
      cases he
      cases ry
      refine ⟨fun es => by cases rx <;> cases op <;> rfl, fun es => ?_, by cases rx <;> rfl, by cases rx <;> rfl⟩
      rw [equal_unfold hu]
      unfold Op.equalIn
      rw [rT_bind (rT_underlying hu)]
      cases rx <;> rfl
    · cases he
  · cases he

include R
theorem s_bin {op : BinOp} {t t' : Nat} {x y : Operand} {v : Value} (ho : o.op = .binOp op t x y t') (e : oBin P T op t (ev tm x) (ev tm y) = some v) : OpVal P ρ h w pm n (execOp a.eval o) v h n := by
  simp only [execOp, ho]
  unfold oBin at e
  split at e
  · rename_i k p l q hx hy
    have r1 := ev_rel S.glob R hx
    have r2 := ev_rel S.glob R hy
    generalize hqx : a.eval x = qx at r1
    generalize hqy : a.eval y = qy at r2
    cases r1
    cases r2
    obtain ⟨e1, e2⟩ := binInt_run (P := P) (w := w) (ρ := ρ) (es := #[]) e
    exact opv_pure S (by rw [rT_bind rT_eqGuard_int]; exact e1) e2
  · rename_i x1 y1 hne hx hy
    have r1 := ev_rel S.glob R hx
    have r2 := ev_rel S.glob R hy
    unfold binRef at e
    split at e
    · rename_i b hb
      obtain ⟨g1, g2, g3, g4⟩ := eqRef_run (P := P) (w := w) K S (op := op) (X := x) (Y := y) hb r1 r2
      cases op <;> dsimp only at e <;> first | (cases e; done) | skip
      · obtain rfl := boolV_eq e
        exact opv_pure S (by rw [rT_bind (g1 #[]), g3, rT_bind (g2 #[])]; rfl) (.bool _)
      · obtain rfl := boolV_eq e
        exact opv_pure S (by rw [rT_bind (g1 #[]), g4, rT_bind (g2 #[])]; rfl) (.bool _)
    · split at e
      · rename_i hf
        rw [Bool.and_eq_true, Bool.and_eq_true] at hf
        have e1 := lfree_self r1 hf.1
        have e2 := lfree_self r2 hf.2.1
        have hn : isNilI x1 = false := by simpa using hf.2.2
        rw [e1, e2]
        have go : ∀ u, pureRun P (do eqGuard op t (.tmp 0) (.tmp 0) x1 y1; binOp op t x1 y1) = some u → (do eqGuard op t x y x1 y1; binOp op t x1 y1 : Sem Value).runT P w #[] = (.ok u w, #[]) := fun u hu => by
          rw [eqGuard_opd (X' := .tmp 0) (Y' := .tmp 0) hn]
          exact pureRun_eq P _ _ hu w #[]
        split at e
        · rename_i b hb
          obtain rfl := boolV_eq e
          exact opv_pure S (go _ hb) (.bool _)
        · rename_i b hb
          cases e
          exact opv_pure S (go _ hb) (.string _)
        · cases e
      · cases e
  · cases e

omit K in
theorem s_un {op : UnOp} {t : Nat} {x : Operand} {v : Value} (ho : o.op = .unOp op t x) (e : oUn P op (ev tm x) = some v) : OpVal P ρ h w pm n (execOp a.eval o) v h n := by
  simp only [execOp, ho]
  unfold oUn at e
  split at e
  · rename_i y hy
    have r := ev_rel S.glob R hy
    split at e
    · rename_i hf
      rw [afree_self r hf]
      split at e
      · rename_i k m hs
        rw [int!_eq] at e
        cases e
        exact opv_pure S (pureRun_eq P _ _ hs w #[]) (.int _ _)
      · rename_i b hs
        obtain rfl := boolV_eq e
        exact opv_pure S (pureRun_eq P _ _ hs w #[]) (.bool _)
      · cases e
    · cases e
  · cases e
end

end Go.Det
namespace Go.Det

section
variable {P : Program}
theorem sameLayout_self (d t : Nat) : sameLayout P (d + 1) t t = true := by simp [sameLayout]
theorem rowAt_self {fits : TypeId → Bool} {d e count off n : Nat} (hs : P.cellsOf e ≠ 0) (hm : off % P.cellsOf e = 0) (hc : off / P.cellsOf e + n ≤ count) (hf : fits e = true) : rowAt P fits (d + 1) e count off n = true := by
  simp [rowAt, hs, hm, hc, hf]
theorem liesAt_self {e count off n : Nat} (hs : P.cellsOf e ≠ 0) (hm : off % P.cellsOf e = 0) (hc : off / P.cellsOf e + n ≤ count) : liesAt P P.depth e count off e n = true := by
  have hd : P.depth = (2 * (P.types.size + Made.depth) + 1) + 1 := rfl
  have hr : rowAt P (sameLayout P P.depth · e) P.depth e count off n = true := by
    rw [hd]
    exact rowAt_self hs hm hc (sameLayout_self _ _)
  have : liesAt P ((2 * (P.types.size + Made.depth) + 1) + 1) e count off e n = true := by
    unfold liesAt
    rw [hr]
    rfl
  exact this
variable {w : World} {es : Array Event} {α : Type}
theorem rT_shape {b : Nat} : (shape b).runT P w es = (.ok (w.shape? b) w, es) := rfl
theorem shape_cells {b : Nat} {c : Array Value} {e : TypeId} {fr : Nat × Nat} (h : w.heap[b]? = some (.cells c e fr)) : w.shape? b = some (e, c.size) := by simp [World.shape?, h]
theorem rT_seenAt {b off : Nat} {c : Array Value} {e : TypeId} {fr : Nat × Nat} (h : w.heap[b]? = some (.cells c e fr)) : (Conv.seenAt ⟨b, off, none⟩).runT P w es = (.ok ⟨b, off, none⟩ w, es) := by
  unfold Conv.seenAt
  rw [rT_bind (x := viewAt b) (a := none) (w' := w) (es' := es)]
  · rfl
  · unfold viewAt
    rw [rT_bind rT_shape, shape_cells h]
    rfl
end

section
variable {P : Program} {T : Tbl} (K : TblOk P T) {ρ : Ren} {h h' : Heap} {w : World} {pm : Perm} (S : Sim ρ h w pm) {nt n n' : Nat} {tm : Tmps} {a : Act} (R : TRel ρ nt tm a) {o : Oper}
include K

theorem cellsOf_ty {t : Nat} {i : TI} (ht : T.ty t = some i) : P.cellsOf t = i.size := by
  obtain ⟨info, z, h1, h2, _⟩ := (K.ty t i ht).ex
  simp [Program.cellsOf, h1, h2]

omit K in
theorem bytesOf_free : ∀ (l : List Value) (bs : List UInt8), bytesOf l = some bs → ∀ (k : Nat) v, l[k]? = some v → afree v = true
  | [], bs, h, k, v, hv => by simp at hv
  | x :: r, bs, h, k, v, hv => by
    unfold bytesOf at h
    split at h
    · rename_i heq; cases heq
    · rename_i n r' heq
      cases heq
      split at h
      · rename_i b hb
        cases k with
        | zero => simp at hv; subst hv; rfl
        | succ k => exact bytesOf_free r b hb k v (by simpa using hv)
      · cases h
    · cases h
omit K in
theorem rT_cellsIn {b : Nat} {c : Array Value} {e : TypeId} {fr : Nat × Nat} {es : Array Event} (h : w.heap[b]? = some (.cells c e fr)) : (cellsIn b).runT P w es = (.ok (some c.size) w, es) := by
  unfold cellsIn
  rw [rT_bind rT_shape, shape_cells h]
  rfl
omit K in
theorem rT_variablesAt {b off u k : Nat} {c : Array Value} {e : TypeId} {fr : Nat × Nat} {es : Array Event} (h : w.heap[b]? = some (.cells c e fr)) : (variablesAt ⟨b, off, none⟩ u k).runT P w es = (.ok (liesAt P P.depth e (c.size / P.cellsOf e) off u k) w, es) := by
  unfold variablesAt
  rw [rT_bind (x := program) (a := P) rfl, rT_bind rT_shape, shape_cells h]
  rfl

include S R
theorem s_index {t : Nat} {x y : Operand} {v : Value} (ho : o.op = .index t x y) (e : oIndex T t (ev tm x) (ev tm y) = some v) : OpVal P ρ h w pm n (execOp a.eval o) v h n := by
  simp only [execOp, ho]
  unfold oIndex at e
  split at e
  · rename_i cs iv hx hy
    have r := ev_rel S.glob R hx
    have ri := ev_rel S.glob R hy
    split at e
    · rename_i len el sz k he hk
      obtain ⟨ti, te, ht, hd, hte, rfl⟩ := arrT_inv he
      obtain ⟨kk, hkk⟩ := natOf_rel hk ri
      split at e
      · rename_i hb
        have hlt := lt_of_blt hb
        generalize hq : a.eval x = q at r
        cases r with
        | agg l g =>
          rename_i b b'
          obtain ⟨u, hu, hr⟩ := part_rel (P := P) (w := w) K S R (c := ⟨b'⟩) ⟨l, g⟩ e
          refine opv_pure S (u := u) ?_ hr
          unfold Instr.index
          rw [hkk, rT_bind rT_asIntOf]
          dsimp only
          rw [rT_bind (rT_desc K ht), hd]
          dsimp only
          have hc : (0 : Int) ≤ (k : Int) ∧ (k : Int) < (len : Int) := ⟨by omega, by omega⟩
          rw [if_pos hc, rT_bind (rT_sizeOf K hte), Int.toNat_natCast]
          exact hu #[]
      · cases e
    · cases e
  · rename_i s iv hx hy
    have r := ev_rel S.glob R hx
    have ri := ev_rel S.glob R hy
    split at e
    · rename_i k hk
      split at e
      · rename_i ht
        obtain ⟨ti, hti, hd⟩ := descT_inv ht
        obtain ⟨kk, hkk⟩ := natOf_rel hk ri
        split at e
        · rename_i b hb
          rw [nat!_eq] at e
          cases e
          generalize hq : a.eval x = q at r
          cases r
          refine opv_pure S (u := .int .u8 (Int.ofNat b.toNat)) ?_ (.int _ _)
          unfold Instr.index
          rw [hkk, rT_bind rT_asIntOf]
          dsimp only
          rw [rT_bind (rT_desc K hti), hd]
          dsimp only
          rw [if_pos (by omega), Int.toNat_natCast, hb]
          rfl
        · cases e
      · cases e
    · cases e
  · cases e

omit K S R in
theorem bytes_loop {f : Value → ByteArray → Sem (ForInStep ByteArray)} (hf : ∀ n s, f (.int .u8 n) s = pure (.yield (s.push (UInt8.ofNat n.toNat)))) : ∀ (l : List Value) (bs : List UInt8) (s : ByteArray) (es : Array Event), bytesOf l = some bs →
    (forIn (m := Sem) l s f).runT P w es = (.ok ⟨s.data ++ ⟨bs⟩⟩ w, es)
  | [], bs, s, es, h => by
    simp [bytesOf] at h
    subst h
    simp [rT_pure]
  | v :: r, bs, s, es, h => by
    unfold bytesOf at h
    split at h
    · rename_i heq
      cases heq
    · rename_i n r' heq
      cases heq
      split at h
      · rename_i b hb
        cases h
        rw [List.forIn_cons, hf, rT_bind (rT_pure _)]
        dsimp only
        rw [bytes_loop hf r b _ _ hb]
        congr 3
        simp [ByteArray.push]
      · cases h
    · cases h

def CvIs (T : Tbl) (s d : Nat) : Cv → Prop
    | .ints k => ∃ j, descT T s = some (.int j) ∧ descT T d = some (.int k)
    | .str => descT T s = some .string ∧ descT T d = some .string
    | .rune => ∃ j, descT T s = some (.int j) ∧ descT T d = some .string
    | .bytes => ∃ e, descT T s = some (.slice e) ∧ descT T d = some .string ∧ descT T e = some (.int .u8)
    | .ptr u => ∃ z, descT T s = some (.pointer u) ∧ descT T d = some .unsafePointer ∧ sizeT T u = some (z + 1)
    | .raw u => ∃ z, descT T s = some .unsafePointer ∧ descT T d = some (.pointer u) ∧ sizeT T u = some (z + 1)
    | .other => True
omit K S R in
theorem convT_inv {s d : Nat} {c : Cv} (hc : convT T s d = c) : CvIs T s d c := by
  unfold convT at hc
  split at hc
  · rename_i j k h1 h2; subst hc; exact ⟨j, h1, h2⟩
  · rename_i h1 h2; subst hc; exact ⟨h1, h2⟩
  · rename_i j h1 h2; subst hc; exact ⟨j, h1, h2⟩
  · rename_i e h1 h2
    split at hc
    · rename_i h3; subst hc; exact ⟨e, h1, h2, h3⟩
    · subst hc; trivial
  · rename_i u h1 h2
    split at hc
    · rename_i z h3; subst hc; exact ⟨z, h1, h2, h3⟩
    · subst hc; trivial
  · rename_i u h1 h2
    split at hc
    · rename_i z h3; subst hc; exact ⟨z, h1, h2, h3⟩
    · subst hc; trivial
  · subst hc; trivial

theorem s_conv {s d : Nat} {x : Operand} {v : Value} (ho : o.op = .convert s d x) (e : oConv T s d h (ev tm x) = some v) : OpVal P ρ h w pm n (execOp a.eval o) v h n := by
  simp only [execOp, ho]
  unfold oConv at e
  split at e
  · rename_i y hy
    have r := ev_rel S.glob R hy
    generalize hq : a.eval x = q at r
    have dd : ∀ {t : Nat} {de : TypeDesc}, descT T t = some de → ∀ es, (underlying t).runT P w es = (.ok de w, es) := fun hd es => by
      obtain ⟨ti, ht, rfl⟩ := descT_inv hd
      exact rT_desc K ht
    have ci := convT_inv (T := T) (s := s) (d := d) rfl
    generalize convT T s d = cv at e ci
    cases cv <;> dsimp only [CvIs] at e ci
    case ints k =>
      obtain ⟨j, h1, h2⟩ := ci
      split at e
      · rename_i m
        obtain rfl := intV_eq e
        cases r
        refine opv_pure S ?_ (.int _ _)
        unfold convert
        rw [rT_bind (dd h1 _), rT_bind (dd h2 _)]
        rfl
      · cases e
    case str =>
      obtain ⟨h1, h2⟩ := ci
      split at e
      · rename_i b
        cases e
        cases r
        refine opv_pure S ?_ (.string _)
        unfold convert
        rw [rT_bind (dd h1 _), rT_bind (dd h2 _)]
        rfl
      · cases e
    case rune =>
      obtain ⟨j, h1, h2⟩ := ci
      split at e
      · rename_i m
        cases e
        cases r
        refine opv_pure S ?_ (.string _)
        unfold convert
        rw [rT_bind (dd h1 _), rT_bind (dd h2 _)]
        rfl
      · cases e
    case bytes =>
      obtain ⟨el, h1, h2, h3⟩ := ci
      split at e
      · cases e
        cases r
        refine opv_pure S ?_ (.string _)
        unfold convert
        rw [rT_bind (dd h1 _), rT_bind (dd h2 _)]
        dsimp only
        rw [rT_bind (dd h3 _)]
        rfl
      · rename_i A l cc
        split at e
        · rename_i cs hcs
          split at e
          · rename_i bs hbs
            cases e
            obtain ⟨i, off, m, c', rfl, hi, hcap, rfl⟩ := slice_inv r
            obtain ⟨l', es', r1, r2, r3, r4⟩ := loadN_rel (P := P) S hi hcs #[]
            have hl : l' = cs := by
              refine List.ext_getElem? fun k => ?_
              by_cases hk : k < cs.length
              · obtain ⟨u, hu, hr⟩ := r3.at' (List.getElem?_eq_getElem hk)
                rw [hu, List.getElem?_eq_getElem hk, afree_self hr (bytesOf_free cs bs hbs k _ (List.getElem?_eq_getElem hk))]
              · have := r3.len
                rw [List.getElem?_eq_none (by omega), List.getElem?_eq_none (by omega)]
            subst hl
            refine opv_still S (rT_v (u := .string ⟨⟨bs⟩⟩) (es' := es') ?_) (.string _) r2
            unfold convert
            rw [rT_bind (dd h1 _), rT_bind (dd h2 _)]
            dsimp only
            rw [rT_bind (dd h3 _)]
            dsimp only [Conv.bytesToString]
            rw [rT_bind r1, ← Array.forIn_toList]
            rw [rT_bind (bytes_loop (fun n s => rfl) l' bs .empty es' hbs)]
            simp [rT_pure]
          · cases e
        · cases e
      · cases e
    case ptr u =>
      obtain ⟨z, h1, h2, h3⟩ := ci
      split at e
      · cases e
        cases r
        refine opv_pure S ?_ .nilPtr
        unfold convert
        rw [rT_bind (dd h1 _), rT_bind (dd h2 _)]
        dsimp only
        unfold Conv.unsafePointer
        rw [rT_bind (dd h1 _), rT_bind (dd h2 _)]
        rfl
      · rename_i b off
        split at e
        · rename_i el cs fx ro hg
          split at e
          · rename_i hlt
            have hlt := lt_of_blt hlt
            rw [lenL_eq] at hlt
            cases e
            obtain ⟨m, hi, rfl⟩ := ptr_inv r
            refine opv_pure S ?_ r
            obtain ⟨c, fr, g1, g2, g3, g4, _⟩ := row_of S hi hg
            have hin : m.s + off < c.size := by
              obtain ⟨u', hu', _⟩ := g2.get off _ (List.getElem?_eq_getElem (by omega))
              exact (Array.getElem?_eq_some_iff.1 hu').1
            obtain ⟨tu, hu, hsz⟩ := sizeT_inv h3
            unfold convert
            rw [rT_bind (dd h1 _), rT_bind (dd h2 _)]
            dsimp only
            unfold Conv.unsafePointer
            rw [rT_bind (dd h1 _), rT_bind (dd h2 _)]
            dsimp only
            rw [rT_bind (rT_seenAt g1), rT_bind (rT_cellsIn g1)]
            dsimp only
            rw [rT_bind (rT_sizeOf K hu), hsz]
            have : decide (m.s + off ≥ c.size) = false := by simp; omega
            simp only [this]
            rfl
          · cases e
        · cases e
      · cases e
    case raw u =>
      obtain ⟨z, h1, h2, h3⟩ := ci
      split at e
      · cases e
        cases r
        refine opv_pure S ?_ .nilPtr
        unfold convert
        rw [rT_bind (dd h1 _), rT_bind (dd h2 _)]
        dsimp only
        unfold Conv.unsafePointer
        rw [rT_bind (dd h1 _), rT_bind (dd h2 _)]
        rfl
      · rename_i b
        split at e
        · rename_i el cs ro sz hg hsz'
          split at e
          · rename_i hb
            rw [Bool.and_eq_true] at hb
            obtain ⟨hb1, hb2⟩ := hb
            have e1 : el = u := Nat.eq_of_beq_eq_true hb1
            have e2 := Nat.eq_of_beq_eq_true hb2
            rw [lenL_eq] at e2
            rw [h3] at hsz'
            cases hsz'
            cases e
            obtain ⟨m, hi, rfl⟩ := ptr_inv r
            refine opv_pure S ?_ r
            obtain ⟨c, fr, g1, g2, g3, g4, _⟩ := row_of S hi hg
            obtain ⟨_, g5, g6⟩ := g3 rfl
            obtain ⟨tu, hu, hsz⟩ := sizeT_inv h3
            subst e1
            have hco : P.cellsOf el = z + 1 := by rw [cellsOf_ty K hu, hsz]
            have hl : liesAt P P.depth el (c.size / P.cellsOf el) (m.s + 0) el 1 = true := by
              refine liesAt_self (by omega) ?_ ?_
              · rw [g5]; simp
              · rw [g5, hco, g6, show cs.length = z + 1 from by omega]
                simp
            unfold convert
            rw [rT_bind (dd h1 _), rT_bind (dd h2 _)]
            dsimp only
            unfold Conv.unsafePointer
            rw [rT_bind (dd h1 _), rT_bind (dd h2 _)]
            dsimp only
            rw [rT_bind (rT_seenAt g1), rT_bind (rT_sizeOf K hu), hsz]
            rw [rT_bind (rT_variablesAt g1), hl]
            simp [rT_pure]
          · cases e
        · cases e
      · cases e
    case other => cases e
  · cases e
end

end Go.Det
namespace Go.Det

section
variable {P : Program} {T : Tbl} (K : TblOk P T) {ρ : Ren} {h h' : Heap} {w : World} {pm : Perm} (S : Sim ρ h w pm) {nt n n' : Nat} {tm : Tmps} {a : Act} (R : TRel ρ nt tm a) {o : Oper}

section
include S R
theorem bound_some {x : Operand} {d y k : Nat} (e : bound tm (some x) d y = some k) : k ≤ y ∧ ∀ y' c es, y ≤ y' → (Instr.sliceBound (a.eval x) y' c).runT P w es = (.ok k w, es) := by
  unfold bound at e
  dsimp only at e
  split at e
  · rename_i v hv
    split at e
    · rename_i m hm
      split at e
      · rename_i hb
        cases e
        have hle : k ≤ y := Nat.le_of_ble_eq_true hb
        obtain ⟨kk, hk⟩ := natOf_rel hm (ev_rel S.glob R hv)
        refine ⟨hle, fun y' c es hy => ?_⟩
        unfold Instr.sliceBound
        rw [hk, rT_bind rT_asIntOf]
        dsimp only
        rw [if_pos ⟨by omega, by omega⟩, Int.toNat_natCast]
        rfl
      · cases e
    · cases e
  · cases e

theorem bounds_rel {lo hi mx : Option Operand} {len cap cap' ll hh m : Nat} (e : bounds tm lo hi mx len cap = some (ll, hh, m)) (hc : cap ≤ cap') (b : Bool) :
    ∃ m', (∀ es, (Instr.sliceBounds b len cap' (lo.map a.eval) (hi.map a.eval) (mx.map a.eval)).runT P w es = (.ok (ll, hh, m') w, es)) ∧ m ≤ m' ∧ m' ≤ cap' ∧ (cap' = cap → m' = m) := by
  unfold bounds at e
  split at e
  · rename_i m0 hm
    split at e
    · cases e
    · rename_i hx
      split at e
      · rename_i hh0 k1
        split at e
        · rename_i ll0 k2
          cases e
          cases mx with
          | none =>
            simp only [bound, Option.some.injEq] at hm
            subst hm
            refine ⟨cap', fun es => ?_, ?_⟩
            · unfold Instr.sliceBounds
              simp only [Option.map_none, Option.isSome_none]
              rw [rT_bind (rT_pure _)]
              cases hi with
              | none =>
                simp only [bound, Option.some.injEq] at k1
                subst k1
                simp only [Option.map_none]
                rw [rT_bind (rT_pure _)]
                cases lo with
                | none =>
                  simp only [bound, Option.some.injEq] at k2
                  subst k2
                  rfl
                | some z =>
                  simp only [Option.map_some]
                  rw [rT_bind ((bound_some (P := P) S R k2).2 _ _ _ (Nat.le_refl _))]
                  rfl
              | some y =>
                simp only [Option.map_some]
                rw [rT_bind ((bound_some (P := P) S R k1).2 _ _ _ hc)]
                cases lo with
                | none =>
                  simp only [bound, Option.some.injEq] at k2
                  subst k2
                  rfl
                | some z =>
                  simp only [Option.map_some]
                  rw [rT_bind ((bound_some (P := P) S R k2).2 _ _ _ (Nat.le_refl _))]
                  rfl
            · exact ⟨hc, Nat.le_refl _, fun e => e⟩
          | some x =>
            obtain ⟨q1, q2⟩ := bound_some (P := P) S R hm
            cases hi with
            | none => exact (hx x rfl rfl).elim
            | some y =>
              obtain ⟨q3, q4⟩ := bound_some (P := P) S R k1
              refine ⟨m, fun es => ?_, ?_⟩
              · unfold Instr.sliceBounds
                simp only [Option.map_some]
                rw [rT_bind (q2 _ _ _ hc), rT_bind (q4 _ _ _ (Nat.le_refl _))]
                cases lo with
                | none =>
                  simp only [bound, Option.some.injEq] at k2
                  subst k2
                  rfl
                | some z =>
                  simp only [Option.map_some]
                  rw [rT_bind ((bound_some (P := P) S R k2).2 _ _ _ (Nat.le_refl _))]
                  rfl
              · exact ⟨Nat.le_refl _, by omega, fun _ => rfl⟩
        · cases e
      · cases e
  · cases e
end

theorem beq_iff {a b : Nat} : Nat.beq a b = true ↔ a = b := by simp

theorem sliceV_inv {A : Addr} {ll hh m sz : Nat} {v : Value} (e : sliceV A ll hh m sz = some v) :
    (m = ll ∧ v = .slice (some A) (hh - ll) 0) ∨ (m ≠ ll ∧ ∃ i off, A = ⟨i, off, none⟩ ∧ v = .slice (some ⟨i, off + ll * sz, none⟩) (hh - ll) (m - ll)) := by
  unfold sliceV at e
  split at e
  · rename_i hb
    rw [nat!_eq] at e
    cases e
    exact .inl ⟨beq_iff.1 hb, rfl⟩
  · rename_i hb
    split at e
    · rename_i B hB
      obtain ⟨i, off, rfl, rfl⟩ := addA_eq hB
      rw [nat!_eq, nat!_eq] at e
      cases e
      refine .inr ⟨fun h => ?_, i, off, rfl, rfl⟩
      rw [beq_iff.2 h] at hb
      cases hb
    · cases e

/-- the value of a slice, in truth -/
theorem sliceV_rel {i off : Nat} {M : Img} {ll hh m m' sz : Nat} {v : Value} (hi : ρ i = some M) (e : sliceV ⟨i, off, none⟩ ll hh m sz = some v) (hm : m ≤ m')
    (hx : (M.fx = none ∧ m' = m) ∨ (∃ Rr, M.fx = some (sz, Rr) ∧ off + m' * sz ≤ Rr ∧ (ll = 0 ∨ ll < m))) :
    VRel ρ v (.slice (some (if m' = ll then (⟨M.b, M.s + off, none⟩ : Addr) else (⟨M.b, M.s + off, none⟩ : Addr).add (ll * sz))) (hh - ll) (m' - ll)) := by
  rcases sliceV_inv e with ⟨h1, rfl⟩ | ⟨h1, i', off', h2, rfl⟩
  · rcases hx with ⟨x1, x2⟩ | ⟨Rr, x1, x2, x3⟩
    · subst x2
      rw [if_pos h1, h1, Nat.sub_self]
      exact .slice hi (by unfold CapOk; rw [x1])
    · have : ll = 0 := by omega
      subst this
      rw [show (if m' = 0 then (⟨M.b, M.s + off, none⟩ : Addr) else (⟨M.b, M.s + off, none⟩ : Addr).add (0 * sz)) = ⟨M.b, M.s + off, none⟩ from by split; rfl; rw [add_mk]; simp]
      exact .slice hi (by unfold CapOk; rw [x1]; exact ⟨Nat.zero_le _, by simpa using x2⟩)
  · cases h2
    have hne : m' ≠ ll := by
      rcases hx with ⟨x1, x2⟩ | ⟨Rr, x1, x2, x3⟩
      · omega
      · omega
    rw [if_neg hne, add_mk, Nat.add_assoc]
    refine .slice hi ?_
    unfold CapOk
    rcases hx with ⟨x1, x2⟩ | ⟨Rr, x1, x2, x3⟩
    · rw [x1, x2]
    · rw [x1]
      refine ⟨by omega, ?_⟩
      have : ll * sz + (m' - ll) * sz = m' * sz := by
        rw [← Nat.add_mul]
        congr 1
        omega
      omega

include K S R
theorem s_slice {t : Nat} {lo hi mx : Option Operand} {x : Operand} {v : Value} (ho : o.op = .slice t x lo hi mx) (e : oSlice T tm t lo hi mx h (ev tm x) = some v) : OpVal P ρ h w pm n (execOp a.eval o) v h n := by
  simp only [execOp, ho]
  unfold oSlice at e
  have dd : ∀ {t : Nat} {de : TypeDesc}, descT T t = some de → ∀ es, (underlying t).runT P w es = (.ok de w, es) := fun hd es => by
    obtain ⟨ti, ht, rfl⟩ := descT_inv hd
    exact rT_desc K ht
  split at e
  · rename_i s hx
    have r := ev_rel S.glob R hx
    generalize hq : a.eval x = q at r
    cases r
    split at e
    · rename_i hd
      split at e
      · rename_i ll hh m hb
        cases e
        obtain ⟨m', g1, _⟩ := bounds_rel (P := P) (w := w) S R hb (Nat.le_refl _) false
        refine opv_pure S ?_ (.string _)
        unfold Instr.sliceAt
        rw [rT_bind (dd hd _)]
        dsimp only
        unfold Instr.slice
        rw [rT_bind (dd hd _)]
        dsimp only [Option.map_none, Option.isSome_none]
        rw [Option.map_none] at g1
        simp only [Bool.false_eq_true, if_false]
        rw [rT_bind (g1 _)]
        rfl
      · cases e
    · cases e
  · rename_i len cap hx
    have r := ev_rel S.glob R hx
    generalize hq : a.eval x = q at r
    cases r
    split at e
    · rename_i x1 ll hh m hel hb
      obtain ⟨el, sz, by'⟩ := x1
      obtain ⟨ti, te, ht, hd, hte, rfl, rfl⟩ := elemT_inv hel
      rw [nat!_eq, nat!_eq] at e
      cases e
      obtain ⟨m', g1, g2, g3, g4⟩ := bounds_rel (P := P) (w := w) S R hb (Nat.le_refl _) true
      obtain rfl := g4 rfl
      refine opv_pure S ?_ (.nilSlice _ _)
      unfold Instr.sliceAt
      rw [rT_bind (rT_desc K ht), hd]
      dsimp only
      unfold Instr.slice
      rw [rT_bind (rT_desc K ht), hd]
      dsimp only
      rw [rT_bind (g1 _)]
      dsimp only
      rw [rT_bind (rT_sizeOf K hte)]
      simp only [Option.map_none, ite_self]
      rfl
    · cases e
  · rename_i A len cap hx
    obtain ⟨i, off, M, c', rfl, hI, hcap, hu⟩ := slice_inv (ev_rel S.glob R hx)
    split at e
    · rename_i el sz by' ll hh m hel hb
      obtain ⟨ti, te, ht, hd, hte, rfl, rfl⟩ := elemT_inv hel
      have go : cap ≤ c' → (∀ m', m ≤ m' → m' ≤ c' → (c' = cap → m' = m) → VRel ρ v (.slice (some (if m' = ll then (⟨M.b, M.s + off, none⟩ : Addr) else (⟨M.b, M.s + off, none⟩ : Addr).add (ll * te.size))) (hh - ll) (m' - ll))) → OpVal P ρ h w pm n (do pure (Next.value (← Instr.sliceAt t (a.eval x) (lo.map a.eval) (hi.map a.eval) (mx.map a.eval)))) v h n := by
        intro hle hv
        obtain ⟨m', g1, g2, g3, g4⟩ := bounds_rel (P := P) (w := w) S R hb hle true
        refine opv_pure S ?_ (hv m' g2 g3 g4)
        unfold Instr.sliceAt
        rw [rT_bind (rT_desc K ht), hd]
        dsimp only
        unfold Instr.slice
        rw [rT_bind (rT_desc K ht), hd, hu]
        dsimp only
        rw [rT_bind (g1 _)]
        dsimp only
        rw [rT_bind (rT_sizeOf K hte)]
        by_cases hml : m' = ll
        · simp only [if_pos hml]
          rfl
        · simp only [if_neg hml]
          rfl
      split at e
      · rename_i el' cs ro hg
        obtain ⟨c, fr, h1, h2, h3, h4, _⟩ := row_of S hI hg
        obtain ⟨f1, _⟩ := h3 rfl
        unfold CapOk at hcap
        rw [f1] at hcap
        dsimp only at hcap
        exact go (by omega) fun m' g2 g3 g4 => sliceV_rel hI e g2 (.inl ⟨f1, g4 hcap⟩)
      · rename_i el' cs s' ro hg
        split at e
        · rename_i hc
          rw [Bool.and_eq_true, Bool.or_eq_true] at hc
          obtain ⟨c1, c2⟩ := hc
          obtain rfl := beq_iff.1 c1
          obtain ⟨c, fr, h1, h2, h3, h4, _⟩ := row_of S hI hg
          obtain ⟨Rr, f1, _⟩ := h4 _ rfl
          unfold CapOk at hcap
          rw [f1] at hcap
          dsimp only at hcap
          refine go hcap.1 fun m' g2 g3 g4 => sliceV_rel hI e g2 (.inr ⟨Rr, f1, ?_, c2.imp beq_iff.1 lt_of_blt⟩)
          have := Nat.mul_le_mul_right te.size g3
          omega
        · cases e
      · cases e
    · cases e
  · rename_i A hx
    obtain ⟨i, off, M, rfl, hI, hu⟩ := ptr_spot (ev_rel S.glob R hx)
    have fin : ∀ {sz ll hh m : Nat}, exact h ⟨i, off, none⟩ = true → sliceV ⟨i, off, none⟩ ll hh m sz = some v → VRel ρ v (.slice (some (if m = ll then (⟨M.b, M.s + off, none⟩ : Addr) else (⟨M.b, M.s + off, none⟩ : Addr).add (ll * sz))) (hh - ll) (m - ll)) := fun {sz ll hh m} hex hv => by
      unfold exact at hex
      split at hex
      · rename_i el' cs ro hg
        obtain ⟨c, fr, h1, h2, h3, h4, _⟩ := row_of S hI hg
        exact sliceV_rel hI hv (Nat.le_refl _) (.inl ⟨(h3 rfl).1, rfl⟩)
      · cases hex
    split at e
    · rename_i arr hd
      split at e
      · rename_i k el sz ha
        obtain ⟨ti, te, ht, hda, hte, rfl⟩ := arrT_inv ha
        unfold sliceP at e
        split at e
        · rename_i ll hh m hex hb
          obtain ⟨m', g1, g2, g3, g4⟩ := bounds_rel (P := P) (w := w) S R hb (Nat.le_refl _) false
          obtain rfl := g4 rfl
          refine opv_pure S ?_ (fin hex e)
          unfold Instr.sliceAt
          rw [rT_bind (dd hd _)]
          dsimp only
          unfold Instr.slice
          rw [rT_bind (dd hd _), hu]
          dsimp only
          rw [rT_bind (x := asAddr _) (a := ⟨M.b, M.s + off, none⟩) rfl, rT_bind (rT_desc K ht), hda]
          dsimp only
          rw [rT_bind (g1 _)]
          dsimp only
          rw [rT_bind (rT_sizeOf K hte)]
          rfl
        · cases e
      · cases e
    · split at e
      · rename_i k el sz ha
        obtain ⟨ti, te, ht, hda, hte, rfl⟩ := arrT_inv ha
        unfold sliceP at e
        split at e
        · rename_i ll hh m hex hb
          obtain ⟨m', g1, g2, g3, g4⟩ := bounds_rel (P := P) (w := w) S R hb (Nat.le_refl _) false
          obtain rfl := g4 rfl
          refine opv_pure S ?_ (fin hex e)
          unfold Instr.sliceAt
          rw [rT_bind (rT_desc K ht), hda, hu]
          dsimp only
          rw [rT_bind (x := Instr.sureAddr _) (a := ⟨M.b, M.s + off, none⟩) rfl]
          rw [rT_bind (g1 _)]
          dsimp only
          rw [rT_bind (rT_sizeOf K hte)]
          rfl
        · cases e
      · cases e
  · cases e
end

end Go.Det
