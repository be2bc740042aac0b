/- Calls, appends, maps and whole regions: what the evaluator says of them holds in the model, in company. Conditions: none beyond what each theorem states. -/
import Derived.Test.YtohliokdpiafbaaGreatDoorDetMa
import Derived.Conc.Own5
set_option linter.unusedVariables false
set_option linter.unusedSimpArgs false
set_option linter.unusedSectionVars false
namespace Go.Det

section
variable {P : Program} {T : Tbl} (K : TblOk P T) {ρ : Ren} {h h' : Heap} {w : World} {pm : Perm} (S : Sim ρ h w pm) {nt n n' : Nat} {tm : Tmps} {a : Act} (R : TRel ρ nt tm a) {o : Oper}

/-- a row of zeros -/
theorem zeros_rel {z : List Value} {zc : Array Value} (hz : zc.toList = z) (hf : afrees z = true) (k : Nat) (hk : z.length * k = 0 → zc = #[] ∨ z.length = 0 ∨ k = 0) :
    VRels ρ (repL z k) ((Array.range (k * z.length)).map (zc[· % zc.size]!)).toList := by
  have hs : zc.size = z.length := by rw [← hz]; simp
  refine ⟨by simp [repL_len], fun j v u hv hu => ?_⟩
  have hj : j < k * z.length := by
    have := (List.getElem?_eq_some_iff.1 hv).1
    rwa [repL_len] at this
  rw [repL_get z k j hj] at hv
  have hlt : j % z.length < z.length := Nat.mod_lt _ (by
    rcases Nat.eq_zero_or_pos z.length with h0 | h0
    · rw [h0] at hj; omega
    · exact h0)
  have e1 : u = zc[j % zc.size]! := by
    simp [hj] at hu
    exact hu.symm
  have e2 : zc[j % zc.size]! = v := by
    rw [hs]
    rw [← hz] at hv
    have hlt' : j % z.length < zc.size := by omega
    simp only [Array.getElem?_toList] at hv
    rw [getElem!_def]
    simp only [hz] at hv
    rw [hv]
  rw [e1, e2]
  exact afree_rel (afrees_get z hf _ v hv)

include K S R
theorem s_buildSlice {t l : Nat} {ps : Array (Nat × Operand)} {v : Value} (ho : o.op = .buildSlice t l ps) (hn : ρ n = none) (e : oBuildSlice T tm t l ps.toList h n = some (.val v h' n')) : OpVal P ρ h w pm n (execOp a.eval o) v h' n' := by
  simp only [execOp, ho]
  unfold oBuildSlice at e
  split at e
  · rename_i el sz by' hel
    obtain ⟨ti, te, ht, hd, hte, rfl, rfl⟩ := elemT_inv hel
    split at e
    · rename_i z qs hz hqs
      obtain ⟨te', hte', rfl⟩ := zeroT_inv hz
      rw [hte] at hte'
      cases hte'
      obtain ⟨zv, hz1, hz2, _⟩ := rT_zero K hte
      obtain ⟨m1, m2⟩ := evParts_rel (T := T) K S R hqs
      have hzl : te.zero.length = te.size := (K.ty _ _ hte).len
      split at e
      · rename_i hle
        have hle : l * te.size ≤ 100000 := Nat.le_of_ble_eq_true hle
        split at e
        · rename_i cs hcs
          obtain ⟨e1, rfl, rfl⟩ := newA_inv e
          have harr : (ps.map fun (i, x) => (i, a.eval x)).toList = ps.toList.map fun (i, x) => (i, a.eval x) := by simp
          obtain ⟨zc, hzc1, hzc2⟩ : ∃ zc : Array Value, ((l * te.size = 0 ∧ zc = #[]) ∨ (¬ l * te.size = 0 ∧ zc = zv.cells)) ∧ VRels ρ (repL te.zero l) ((Array.range (l * te.size)).map (zc[· % zc.size]!)).toList := by
            by_cases h0 : l * te.size = 0
            · refine ⟨#[], .inl ⟨h0, rfl⟩, ?_⟩
              have : repL te.zero l = [] := List.length_eq_zero_iff.1 (by rw [repL_len, hzl]; exact h0)
              rw [this, h0]
              simpa using VRels.nil
            · refine ⟨zv.cells, .inr ⟨h0, rfl⟩, ?_⟩
              have := zeros_rel (ρ := ρ) (z := te.zero) (zc := zv.cells) (by rw [cells_list, hz2]) (K.ty _ _ hte).free l (fun h => by rw [hzl, Nat.mul_comm] at h; exact absurd h h0)
              rwa [hzl] at this
          obtain ⟨c', f1, f2⟩ := fill_rel (ρ := ρ) (fun _ _ e => e) qs _ _ _ _ m1 m2 hzc2 hcs
          refine new_row S hn e1 f2 (rT_v ?_) (.slice (m := ⟨w.heap.size, 0, none⟩) (by unfold Ren.set; rw [if_pos rfl]) rfl)
          unfold Instr.buildSlice
          rw [rT_bind (rT_desc K ht), hd]
          dsimp only
          rw [rT_bind (rT_sizeOf K hte), if_neg (by omega), harr]
          have f1' : Instr.fill (fun i => some (i * te.size, te.size)) ((Array.range (l * te.size)).map (zc[· % zc.size]!)) (ps.toList.map fun (i, x) => (i, a.eval x)) = some c' := f1
          rcases hzc1 with ⟨h0, rfl⟩ | ⟨h0, rfl⟩
          · rw [if_pos h0, rT_bind (rT_pure _), f1']
            dsimp only
            rw [rT_bind rT_newRow]
            rfl
          · rw [if_neg h0, rT_bind (hz1 w _), rT_bind (rT_pure _), f1']
            dsimp only
            rw [rT_bind rT_newRow]
            rfl
        · cases e
      · cases e
    · cases e
  · cases e

theorem s_makeSlice {t : Nat} {l c : Operand} {v : Value} (ho : o.op = .makeSlice t l c) (hn : ρ n = none) (e : oMakeSlice T t h n (ev tm l) (ev tm c) = some (.val v h' n')) : OpVal P ρ h w pm n (execOp a.eval o) v h' n' := by
  simp only [execOp, ho]
  unfold oMakeSlice at e
  split at e
  · rename_i lv cv hlv hcv
    split at e
    · rename_i el sz by' ln cn hel hln hcn
      obtain ⟨ti, te, ht, hd, hte, rfl, rfl⟩ := elemT_inv hel
      obtain ⟨k1, hk1⟩ := natOf_rel hln (ev_rel S.glob R hlv)
      obtain ⟨k2, hk2⟩ := natOf_rel hcn (ev_rel S.glob R hcv)
      split at e
      · rename_i hb
        rw [Bool.and_eq_true, Bool.and_eq_true] at hb
        have b1 : ln ≤ cn := Nat.le_of_ble_eq_true hb.1
        have b2 : cn ≤ 100000 := Nat.le_of_ble_eq_true hb.2.1
        have b3 : te.bytes ≤ 1000 := Nat.le_of_ble_eq_true hb.2.2
        have b4 : te.bytes * cn ≤ 1000 * 100000 := Nat.mul_le_mul b3 b2
        split at e
        · rename_i z hz
          obtain ⟨te', hte', rfl⟩ := zeroT_inv hz
          rw [hte] at hte'
          cases hte'
          obtain ⟨zv, hz1, hz2, _⟩ := rT_zero K hte
          obtain ⟨info, z0, i1, i2, i3, _⟩ := (K.ty _ _ hte).ex
          have hzl : te.zero.length = te.size := (K.ty _ _ hte).len
          obtain ⟨e1, rfl, rfl⟩ := newA_inv e
          obtain ⟨zc, hzc1, hzc2⟩ : ∃ zc : Array Value, ((cn * te.size = 0 ∧ zc = #[]) ∨ (¬ cn * te.size = 0 ∧ zc = zv.cells)) ∧ VRels ρ (repL te.zero cn) ((Array.range (cn * te.size)).map (zc[· % zc.size]!)).toList := by
            by_cases h0 : cn * te.size = 0
            · refine ⟨#[], .inl ⟨h0, rfl⟩, ?_⟩
              have : repL te.zero cn = [] := List.length_eq_zero_iff.1 (by rw [repL_len, hzl]; exact h0)
              rw [this, h0]
              simpa using VRels.nil
            · refine ⟨zv.cells, .inr ⟨h0, rfl⟩, ?_⟩
              have := zeros_rel (ρ := ρ) (z := te.zero) (zc := zv.cells) (by rw [cells_list, hz2]) (K.ty _ _ hte).free cn (fun h => by rw [hzl, Nat.mul_comm] at h; exact absurd h h0)
              rwa [hzl] at this
          refine new_row S hn e1 hzc2 (rT_v ?_) (.slice (m := ⟨w.heap.size, 0, none⟩) (by unfold Ren.set; rw [if_pos rfl]) rfl)
          unfold Instr.makeSlice
          rw [rT_bind (rT_desc K ht), hd]
          dsimp only
          rw [hk1, hk2, rT_bind rT_asInt, rT_bind rT_asInt, rT_bind (rT_typeInfo i1), i3]
          have w1 : IntKind.i64.wrap (ln : Int) = ln := IntWalk.i64_in _ ⟨by omega, by omega⟩
          have w2 : IntKind.i64.wrap (cn : Int) = cn := IntWalk.i64_in _ ⟨by omega, by omega⟩
          rw [w1, w2]
          have b5 : (te.bytes : Int) * (cn : Int) ≤ ((1000 * 100000 : Nat) : Int) := by
            have := Int.ofNat_le.2 b4
            rwa [Int.natCast_mul] at this
          have cnd : (decide ((cn : Int) < 0) || decide ((te.bytes : Int) * (cn : Int) > 2 ^ 48) || decide ((ln : Int) < 0) || decide ((ln : Int) > (cn : Int))) = false := by
            have g : ¬ (te.bytes : Int) * (cn : Int) > 2 ^ 48 := by
              have : (2 : Int) ^ 48 = 281474976710656 := by decide
              rw [this]
              omega
            rw [decide_eq_false (by omega), decide_eq_false g, decide_eq_false (by omega), decide_eq_false (by omega)]
            rfl

          rw [cnd]
          simp only [Bool.false_eq_true, if_false, Int.toNat_natCast]
          have room : (askRoom (cn * te.bytes)).runT P w #[] = (.ok () w, #[]) := by
            unfold askRoom
            rw [if_neg (by unfold roomBytes; rw [Nat.mul_comm]; omega)]
            rfl
          rw [rT_bind room, rT_bind (rT_sizeOf K hte)]
          rcases hzc1 with ⟨h0, rfl⟩ | ⟨h0, rfl⟩
          · rw [if_pos h0, rT_bind (rT_pure _), rT_bind rT_newRow]
            rfl
          · rw [if_neg h0, rT_bind (hz1 w _), rT_bind (rT_pure _), rT_bind rT_newRow]
            rfl
        · cases e
      · cases e
    · cases e
  · cases e

omit K in
theorem s_makeMap {t : Nat} {v : Value} (ho : o.op = .makeMap t none) (hn : ρ n = none) (e : newA h n (.map []) (.map (some n)) = some (.val v h' n')) : OpVal P ρ h w pm n (execOp a.eval o) v h' n' := by
  simp only [execOp, ho]
  obtain ⟨e1, rfl, rfl⟩ := newA_inv e
  refine new_val S hn e1 (w' := { w with heap := w.heap.push (.map #[] 0) }) (ob := .map #[] 0) (fx := none) (u := .map (some w.heap.size)) (es := #[]) rfl ⟨rfl, rfl, rfl⟩ ?_ (.refl _ _) ?_ ?_
  · rfl
  · exact ⟨rfl, rfl, fun k x y hx => by simp at hx⟩
  · exact .map (m := ⟨w.heap.size, 0, none⟩) (by unfold Ren.set; rw [if_pos rfl])
theorem s_makeChan {t : Nat} {x : Operand} {v : Value} (ho : o.op = .makeChan t x) (hn : ρ n = none) (e : oMakeChan T t h n (ev tm x) = some (.val v h' n')) : OpVal P ρ h w pm n (execOp a.eval o) v h' n' := by
  simp only [execOp, ho]
  unfold oMakeChan at e
  split at e
  · rename_i k hx
    have r := ev_rel S.glob R hx
    generalize hq : a.eval x = q at r
    cases r
    split at e
    · rename_i d el hd
      obtain ⟨ti, ht, hd'⟩ := descT_inv hd
      split at e
      · rename_i te hte
        obtain ⟨e1, rfl, rfl⟩ := newA_inv e
        obtain ⟨info, z, i1, _⟩ := (K.ty _ _ hte).ex
        refine new_val S hn e1 (w' := { w with heap := w.heap.push (.chan 0 #[] false 0 0 false) }) (ob := .chan 0 #[] false 0 0 false) (fx := none) (u := .chan (some w.heap.size)) (es := #[]) rfl ⟨rfl, rfl, rfl⟩ (rT_v ?_) (.refl _ _) ?_ ?_
        · unfold Instr.makeChan
          rw [rT_bind (x := asInt _) (a := (0 : Int)) rfl, rT_bind (rT_desc K ht), hd']
          dsimp only
          rw [rT_bind (rT_typeInfo i1)]
          rw [if_neg (by rw [show IntKind.i64.max = 9223372036854775807 from by decide]; simp)]
          rfl
        · exact ⟨rfl, rfl, rfl, rfl⟩
        · exact .chan (m := ⟨w.heap.size, 0, none⟩) (by unfold Ren.set; rw [if_pos rfl])
      · cases e
    · cases e
  · cases e
end

end Go.Det
namespace Go.Det

section
variable {P : Program} {T : Tbl} (K : TblOk P T) {ρ : Ren} {h h' : Heap} {w : World} {pm : Perm} (S : Sim ρ h w pm) {nt n n' : Nat} {ty : Nat} {cs : Array Bool} {ts : Array Nat}

theorem max2_int {k l : IntKind} {x y : Int} : Builtin.max2 (.int k x) (.int l y) = pure (.int k (if y > x then y else x)) := rfl
theorem min2_int {k l : IntKind} {x y : Int} : Builtin.min2 (.int k x) (.int l y) = pure (.int k (if y < x then y else x)) := rfl

theorem max_rel : ∀ (r us : List Value) (x u v : Value), VRel ρ x u → VRels ρ r us → maxA x r = some v → ∃ u', VRel ρ v u' ∧ ∀ es, (us.foldlM Builtin.max2 u).runT P w es = (.ok u' w, es)
  | [], us, x, u, v, hx, hr, e => by
    rw [hr.nil_inv]
    simp only [maxA, Option.some.injEq] at e
    subst e
    exact ⟨u, hx, fun es => rfl⟩
  | y :: r, us, x, u, v, hx, hr, e => by
    obtain ⟨uy, us', rfl, q1, q2⟩ := hr.cons_inv
    unfold maxA at e
    split at e
    · rename_i heq; cases heq
    · rename_i k x0 l y0 r' heq
      cases heq
      cases hx
      cases q1
      rw [ltI_eq] at e
      split at e
      · rename_i hb
        obtain ⟨u', h1, h2⟩ := max_rel r us' _ _ v (.int k y0) q2 e
        refine ⟨u', h1, fun es => ?_⟩
        rw [List.foldlM_cons, max2_int, rT_bind (rT_pure _), if_pos (by simpa using hb)]
        exact h2 es
      · rename_i hb
        obtain ⟨u', h1, h2⟩ := max_rel r us' _ _ v (.int k x0) q2 e
        refine ⟨u', h1, fun es => ?_⟩
        rw [List.foldlM_cons, max2_int, rT_bind (rT_pure _), if_neg (by simpa using hb)]
        exact h2 es
    · cases e
theorem min_rel : ∀ (r us : List Value) (x u v : Value), VRel ρ x u → VRels ρ r us → minA x r = some v → ∃ u', VRel ρ v u' ∧ ∀ es, (us.foldlM Builtin.min2 u).runT P w es = (.ok u' w, es)
  | [], us, x, u, v, hx, hr, e => by
    rw [hr.nil_inv]
    simp only [minA, Option.some.injEq] at e
    subst e
    exact ⟨u, hx, fun es => rfl⟩
  | y :: r, us, x, u, v, hx, hr, e => by
    obtain ⟨uy, us', rfl, q1, q2⟩ := hr.cons_inv
    unfold minA at e
    split at e
    · rename_i heq; cases heq
    · rename_i k x0 l y0 r' heq
      cases heq
      cases hx
      cases q1
      rw [ltI_eq] at e
      split at e
      · rename_i hb
        obtain ⟨u', h1, h2⟩ := min_rel r us' _ _ v (.int k y0) q2 e
        refine ⟨u', h1, fun es => ?_⟩
        rw [List.foldlM_cons, min2_int, rT_bind (rT_pure _), if_pos (by simpa using hb)]
        exact h2 es
      · rename_i hb
        obtain ⟨u', h1, h2⟩ := min_rel r us' _ _ v (.int k x0) q2 e
        refine ⟨u', h1, fun es => ?_⟩
        rw [List.foldlM_cons, min2_int, rT_bind (rT_pure _), if_neg (by simpa using hb)]
        exact h2 es
    · cases e

include S
theorem b_max {x u v : Value} {r us : List Value} (hx : VRel ρ x u) (hr : VRels ρ r us) (e : maxA x r = some v) : OpVal P ρ h w pm n (builtin .max ts ty cs ⟨u :: us⟩) v h n := by
  obtain ⟨u', h1, h2⟩ := max_rel (P := P) (w := w) r us x u v hx hr e
  exact opv_pure S (by show (List.foldlM Builtin.max2 u us).runT P w #[] = _; exact h2 #[]) h1
theorem b_min {x u v : Value} {r us : List Value} (hx : VRel ρ x u) (hr : VRels ρ r us) (e : minA x r = some v) : OpVal P ρ h w pm n (builtin .min ts ty cs ⟨u :: us⟩) v h n := by
  obtain ⟨u', h1, h2⟩ := min_rel (P := P) (w := w) r us x u v hx hr e
  exact opv_pure S (by show (List.foldlM Builtin.min2 u us).runT P w #[] = _; exact h2 #[]) h1

theorem b_sliceData {s u v : Value} (hx : VRel ρ s u) (e : oSliceData s = some v) : OpVal P ρ h w pm n (builtin .unsafeSliceData ts ty cs ⟨[u]⟩) v h n := by
  unfold oSliceData at e
  split at e
  · cases e
    cases hx
    exact opv_pure S rfl .nilPtr
  · rename_i A l c
    cases e
    obtain ⟨i, off, m, c', rfl, hi, hcap, rfl⟩ := slice_inv hx
    refine opv_pure S (u := .pointer (some ⟨m.b, m.s + off, none⟩)) ?_ (.ptr hi)
    have hc : c' ≠ 0 := by
      unfold CapOk at hcap
      split at hcap
      · omega
      · omega
    show (Builtin.unsafeSliceData_ ts ty #[.slice (some ⟨m.b, m.s + off, none⟩) l c']).runT P w #[] = _
    show (do if c' ≠ 0 then pure (.pointer (some ⟨m.b, m.s + off, none⟩)) else if (← viewAt m.b).isSome then pure (.pointer (some ⟨m.b, m.s + off, none⟩)) else pure (.pointer (some ⟨← newObj (.view ⟨m.b, m.s + off, none⟩ (← elemOf ty)), 0, none⟩)) : Sem Value).runT P w #[] = _
    rw [if_pos hc]
    rfl
  · cases e

include K
theorem b_len {t : Nat} {x u v : Value} (ht0 : ts[0]? = some t) (hx : VRel ρ x u) (e : oLen T t x = some v) : OpVal P ρ h w pm n (builtin .len ts ty cs ⟨[u]⟩) v h n := by
  unfold oLen at e
  have dd : ∀ {t : Nat} {de : TypeDesc}, descT T t = some de → ∀ es, (underlying t).runT P w es = (.ok de w, es) := fun hd es => by
    obtain ⟨ti, ht, rfl⟩ := descT_inv hd
    exact rT_desc K ht
  have go : ∀ {u' : Value}, (Builtin.len_ ts ty #[u]).runT P w #[] = (.ok u' w, #[]) → VRel ρ v u' → OpVal P ρ h w pm n (builtin .len ts ty cs ⟨[u]⟩) v h n := fun h1 h2 => opv_pure S h1 h2
  have zero : (#[u] : Array Value)[0]? = some u := rfl
  split at e
  · rename_i hd
    split at e
    · rw [nat!_eq] at e
      cases e
      cases hx
      refine go ?_ (.int _ _)
      unfold Builtin.len_
      rw [ht0, zero]
      dsimp only
      rw [rT_bind (dd hd _)]
      rfl
    · cases e
  · rename_i k el hd
    cases e
    refine go ?_ (.int _ _)
    unfold Builtin.len_
    rw [ht0, zero]
    dsimp only
    rw [rT_bind (dd hd _)]
    rfl
  · rename_i el hd
    split at e
    · cases e
      cases hx
      · refine go ?_ (.int _ _)
        unfold Builtin.len_
        rw [ht0, zero]
        dsimp only
        rw [rT_bind (dd hd _)]
        rfl
      · refine go ?_ (.int _ _)
        unfold Builtin.len_
        rw [ht0, zero]
        dsimp only
        rw [rT_bind (dd hd _)]
        rfl
    · cases e
  · cases e

omit K S in
theorem loadBytes_rel {b : Nat} {c : Array Value} {el : Nat} {fr : Nat × Nat} (hb : w.heap[b]? = some (.cells c el fr)) (hp : pm.rd b) : ∀ (l : List Value) (bs : List UInt8) (off : Nat) (acc : ByteArray) (es : Array Event), bytesOf l = some bs → (∀ (k : Nat) v, l[k]? = some v → c[off + k]? = some v) →
    ∃ es', (loadBytes ⟨b, off, none⟩ acc l.length).runT P w es = (.ok ⟨acc.data ++ ⟨bs⟩⟩ w, es') ∧ EvLe pm es es'
  | [], bs, off, acc, es, h, _ => by
    simp [bytesOf] at h
    subst h
    exact ⟨es, by simp [loadBytes, rT_pure], .refl _ _⟩
  | v :: r, bs, off, acc, es, h, hc => by
    unfold bytesOf at h
    split at h
    · rename_i heq; cases heq
    · rename_i k r' heq
      cases heq
      split at h
      · rename_i s hs
        cases h
        have h0 := hc 0 _ rfl
        obtain ⟨es', h1, h2⟩ := loadBytes_rel hb hp r s (off + 1) (acc.push (UInt8.ofNat k)) (es.push ⟨.cell ⟨b, off, none⟩, false, false⟩) hs fun j v hj => by
          rw [show off + 1 + j = off + (j + 1) from by omega]
          exact hc (j + 1) v (by simpa using hj)
        refine ⟨es', ?_, (EvLe.push (evIn_read hp)).trans h2⟩
        simp only [List.length_cons]
        unfold loadBytes
        rw [rT_bind (rT_load (cell_of hb (by simpa using h0)))]
        dsimp only
        rw [add_mk]
        refine Eq.trans ?_ (h1.trans ?_)
        · rfl
        · congr 3
          simp [ByteArray.push]
      · cases h
    · cases h

omit K S in
theorem freeze_setB {b off k : Nat} {c : Array Value} {el : Nat} {fr : Nat × Nat} (hb : w.heap[b]? = some (.cells c el fr)) (hk : k ≠ 0) : ∃ fr', w.freeze ⟨b, off, none⟩ k = setB w b (.cells c el fr') := by
  obtain ⟨lo, hi⟩ := fr
  refine ⟨if lo == hi then (off, off + k) else (min lo off, max hi (off + k)), ?_⟩
  unfold World.freeze setB
  rw [if_neg hk]
  congr 1
  refine Array.ext_getElem? fun j => ?_
  rw [Array.getElem?_modify]
  by_cases hj : b = j
  · subst hj
    obtain ⟨hlt, hg⟩ := Array.getElem?_eq_some_iff.1 hb
    simp [hlt, hg]
  · simp [hj, Array.getElem?_setIfInBounds_ne hj]

theorem b_string {pt : Nat} {p l up ul v : Value} (ht0 : ts[0]? = some pt) (hp : VRel ρ p up) (hl : VRel ρ l ul) (e : oUnsafeString T pt h n p l = some (.val v h' n')) : OpVal P ρ h w pm n (builtin .unsafeString ts ty cs ⟨[up, ul]⟩) v h' n' := by
  unfold oUnsafeString at e
  split at e
  · rename_i q lv
    split at e
    · rename_i hl0
      cases e
      obtain ⟨kk, rfl⟩ := natOf_rel hl0 hl
      refine opv_pure S (u := .string .empty) ?_ (.string _)
      show (Builtin.unsafeString_ ts ty #[up, .int kk ((0 : Nat) : Int)]).runT P w #[] = _
      unfold Builtin.unsafeString_
      rw [ht0]
      cases hp <;> rfl
    · rename_i k hk0 hk
      obtain ⟨kk, rfl⟩ := natOf_rel hk hl
      split at e
      · rename_i b off
        split at e
        · rename_i u el row fx hpe hg
          split at e
          · rename_i hel hsz
            obtain rfl := beq_iff.1 hel
            split at e
            · rename_i bsv hcs
              split at e
              · rename_i bs h1 hbs hput
                cases hlt : Nat.blt k 1000000 with
                | false => rw [hlt] at e; cases e
                | true =>
                  rw [hlt] at e
                  have hlt := lt_of_blt hlt
                  cases e
                  obtain ⟨m, hi, rfl⟩ := ptr_inv hp
                  obtain ⟨c, fr, g1, g2, g3, g4, g5, g6, g7⟩ := row_of S hi hg
                  obtain ⟨l1, l2⟩ := cellsAt_get hcs
                  obtain ⟨tu, htu, hs1⟩ := sizeT_inv hsz
                  have hco : P.cellsOf el = 1 := by rw [cellsOf_ty K htu, hs1]
                  have hk1 : k ≠ 0 := fun h0 => hk0 (by rw [h0])
                  -- the cells, in truth
                  have hcell : ∀ (j : Nat) v, bsv[j]? = some v → c[m.s + off + j]? = some v := fun j v hj => by
                    have hjl : j < k := by rw [← l1]; exact (List.getElem?_eq_some_iff.1 hj).1
                    have hj' := hj
                    rw [l2 j hjl] at hj'
                    obtain ⟨x, hx, hr⟩ := g2.get _ _ hj'
                    rw [show m.s + off + j = m.s + (off + j) from by omega, hx, afree_self hr (bytesOf_free bsv bs hbs j v hj)]
                  have hin : m.s + off + k ≤ c.size := by
                    have := hcell (k - 1) _ (List.getElem?_eq_getElem (by omega : k - 1 < bsv.length))
                    have := (Array.getElem?_eq_some_iff.1 this).1
                    omega
                  obtain ⟨es', r1, r2⟩ := loadBytes_rel (P := P) (pm := pm) g1 g6 bsv bs (m.s + off) .empty #[] hbs hcell
                  rw [l1] at r1
                  obtain ⟨fr', hfz⟩ := freeze_setB (off := m.s + off) g1 hk1
                  refine ⟨.string ⟨⟨bs⟩⟩, setB w m.b (.cells c el fr'), es', ρ, pm, rT_v (w' := setB w m.b (.cells c el fr')) (es' := es') (u := .string ⟨⟨bs⟩⟩) ?_, .string _, set_eff S hi hg rfl hput ?_, r2⟩
                  · show (Builtin.unsafeString_ ts ty #[.pointer (some ⟨m.b, m.s + off, none⟩), .int kk (k : Int)]).runT P w #[] = _
                    refine (congrArg (fun s => Sem.runT P s w #[]) (show Builtin.unsafeString_ ts ty #[.pointer (some ⟨m.b, m.s + off, none⟩), .int kk (k : Int)] = asInt (.int kk (k : Int)) >>= _ from rfl)).trans ?_
                    rw [rT_bind rT_asInt, ht0]
                    dsimp only
                    have c1 : ¬ ((k : Int) < 0) := by omega
                    have c2 : ¬ ((k : Int) > IntKind.i64.max) := by
                      have : IntKind.i64.max = 9223372036854775807 := by decide
                      rw [this]; omega
                    have c3 : ¬ ((k : Int) = 0) := by omega
                    have elem : (elemOf pt).runT P w #[] = (.ok el w, #[]) := by
                      unfold ptrElem at hpe
                      split at hpe
                      · rename_i u' hd
                        cases hpe
                        obtain ⟨ti, hti, hd'⟩ := descT_inv hd
                        unfold elemOf
                        rw [rT_bind (rT_desc K hti), hd']
                        rfl
                      · cases hpe
                    rw [if_neg c1, if_neg c2, if_neg c3, rT_bind elem, rT_bind (rT_variablesAt g1)]
                    have hlie : liesAt P P.depth el (c.size / P.cellsOf el) (m.s + off) el (Int.toNat (k : Int)) = true := by
                      refine liesAt_self (by omega) (by rw [hco]; exact Nat.mod_one _) ?_
                      rw [hco, Nat.div_one, Nat.div_one, Int.toNat_natCast]
                      exact hin
                    rw [hlie]
                    simp only [if_true, Int.toNat_natCast]
                    rw [rT_bind r1]
                    rw [rT_bind (x := freeze _ k) (a := ()) (w' := setB w m.b (.cells c el fr')) (es' := es') (by show (Result.ok () (w.freeze ⟨m.b, m.s + off, none⟩ k), es') = _; rw [hfz])]
                    simp [rT_pure]
                  · exact ⟨rfl, g2, g3, g4, fun x => by cases x⟩
              · cases e
            · cases e
          · cases e
        · cases e
      · cases e
    · cases e
  · cases e
end

end Go.Det
namespace Go.Det

theorem Sim.heap {ρ : Ren} {h : Heap} {w w' : World} {pm : Perm} (S : Sim ρ h w pm) (e : w'.heap = w.heap) : Sim ρ h w' pm :=
  ⟨S.glob, fun i m o a b => (S.at' i m o a b).mono (fun _ _ e => e) (by rw [e]; exact Nat.le_refl _) (by rw [e]) id id, S.inj⟩

/-- a block is no longer known -/
theorem del_eff {ρ : Ren} {h h1 : Heap} {w : World} {pm : Perm} {n i : Nat} (S : Sim ρ h w pm) (hnp : ∀ vs, h.get i ≠ some (.pipe vs)) (e : hdel h i = some h1) : Eff ρ h w pm n ρ h1 w pm n := by
  have get : ∀ j o, h1.get j = some o → h.get j = some o := fun j o hj => by
    rw [hdel_get e] at hj
    split at hj
    · cases hj
    · exact hj
  refine ⟨fun _ _ e => e, fun _ _ => rfl, ⟨S.glob, fun j m o a b => S.at' j m o a (get _ _ b), fun j k m m' o o' a b c d => S.inj j k m m' o o' a b (get _ _ c) (get _ _ d)⟩, Nat.le_refl _, (Perm.grow_self _ _).symm, ⟨rfl, rfl, rfl⟩, fun _ _ _ => rfl, fun _ _ _ => rfl, fun _ _ a b => by omega, fun j hj _ => ?_, Nat.le_refl _, fun j m vs x y => ⟨x, get _ _ y⟩, fun j m vs x y => ?_, fun j m o1 o2 _ x y z u => ?_⟩
  · rw [hdel_get e, hj]
    split <;> rfl
  · rw [hdel_get e, if_neg (by rintro rfl; exact hnp vs y)]
    exact y
  · have := get _ _ u
    rw [y] at this; cases this; exact z

/-- a block goes on under another number -/
theorem move_eff {ρ : Ren} {h h1 h' : Heap} {w : World} {pm : Perm} {n i : Nat} {m m' : Img} {o o' : AObj} {ob : Obj} (S : Sim ρ h w pm) (hi : ρ i = some m) (ho : h.get i = some o) (hro : o.ro = false) (hn : ρ n = none)
    (e1 : hdel h i = some h1) (e2 : hput h1 n o' = some h') (hb : m'.b = m.b) (hr : ORel (ρ.set n m') m' o' ob) (hp : ∀ vs, o' ≠ .pipe vs := by intro _ h; cases h) : Eff ρ h w pm n (ρ.set n m') h' (setB w m.b ob) pm (Nat.succ n) := by
  obtain ⟨ro0, x1, x2, x3, x4⟩ := (S.at' i m o hi ho).get (by rintro vs rfl; cases hro)
  have hle := Ren.le_set (m := m') hn
  have hin : i ≠ n := fun h => by rw [h, hn] at hi; cases hi
  have get : ∀ j o, h'.get j = some o → (j = n ∧ o = o') ∨ (j ≠ n ∧ j ≠ i ∧ h.get j = some o) := fun j oj hj => by
    rw [hput_get e2] at hj
    split at hj
    · rename_i h; cases hj; exact .inl ⟨h, rfl⟩
    · rename_i h
      rw [hdel_get e1] at hj
      split at hj
      · cases hj
      · rename_i h'; exact .inr ⟨h, h', hj⟩
  have oth : ∀ j mj, j ≠ n → (ρ.set n m') j = some mj → ρ j = some mj := fun j mj hj e => by
    unfold Ren.set at e
    rwa [if_neg hj] at e
  have own : ∀ mj, (ρ.set n m') n = some mj → mj = m' := fun mj e => by
    unfold Ren.set at e
    rw [if_pos rfl] at e
    cases e; rfl
  refine ⟨hle, fun j hj => ?_, ⟨fun g hg => hle _ _ (S.glob g hg), fun j mj oj a b => ?_, fun j k mj mk oj ok a b c d f => ?_⟩, by rw [setB_size]; exact Nat.le_refl _, by rw [setB_size, Perm.grow_self], ⟨rfl, rfl, rfl⟩,
    fun b _ hp => setB_ne (by rintro rfl; exact hp (x4 hro)), fun b _ hf => setB_ne (hf i m o hi ho hro), fun j mj a b c => ?_, fun j a b => ?_, Nat.le_succ n, fun j mj vs x y => ?_, fun j mj vs x y => ?_, fun j mj o1 o2 nj x y z u => ?_⟩
  · unfold Ren.set
    rw [if_neg (by omega)]
  · rcases get j oj b with ⟨rfl, rfl⟩ | ⟨c1, c2, c3⟩
    · rw [own mj a]
      exact There.of (by rw [hb]; exact setB_same x1) hr (by rw [hb]; exact x3) fun _ => by rw [hb]; exact x4 hro
    · have a' := oth j mj c1 a
      exact (S.at' j mj oj a' c3).mono hle (by rw [setB_size]; exact Nat.le_refl _) (setB_ne (fun hbb => c2 (S.inj j i mj m oj o a' hi c3 ho hbb.symm))) id id
  · rcases get j oj c with ⟨rfl, rfl⟩ | ⟨c1, c2, c3⟩ <;> rcases get k ok d with ⟨rfl, rfl⟩ | ⟨d1, d2, d3⟩
    · rfl
    · have := own mj a
      subst this
      exact absurd (S.inj k i mk m ok o (oth k mk d1 b) hi d3 ho (by rw [← f, hb])) d2
    · have := own mk b
      subst this
      exact absurd (S.inj j i mj m oj o (oth j mj c1 a) hi c3 ho (by rw [f, hb])) c2
    · exact S.inj j k mj mk oj ok (oth j mj c1 a) (oth k mk d1 b) c3 d3 f
  · have : j = n := by omega
    subst this
    rw [own mj c]
    exact .inr ⟨i, m, o, hi, ho, hro, hb.symm⟩
  · rw [hput_get e2, if_neg (by omega), hdel_get e1, a]
    split <;> rfl
  · rcases get j _ y with ⟨rfl, rfl⟩ | ⟨c1, c2, c3⟩
    · exact absurd rfl (hp vs)
    · exact ⟨oth j mj c1 x, c3⟩
  · have hj : j ≠ i := by
      rintro rfl
      rw [ho] at y
      cases y
      cases hro
    rw [hput_get e2, if_neg (by rintro rfl; rw [hn] at x; cases x), hdel_get e1, if_neg hj]
    exact y
  · rcases get j o2 u with ⟨c1, _⟩ | ⟨_, _, c3⟩
    · omega
    · rw [y] at c3; cases c3; exact z

section
variable {P : Program} {T : Tbl} (K : TblOk P T) {ρ : Ren} {h h' : Heap} {w : World} {pm : Perm} (S : Sim ρ h w pm) {nt n n' : Nat} {ty : Nat} {cs : Array Bool} {ts : Array Nat}

theorem string_cells (b : ByteArray) : VRels ρ (b.data.toList.map fun c => Value.int .u8 c.toNat) ((b.extract 0 b.size).data.map fun c => Value.int .u8 c.toNat).toList := by
  have : b.extract 0 b.size = b := by simp
  rw [this]
  refine ⟨by simp, fun k v u hv hu => ?_⟩
  simp only [Array.toList_map] at hu
  rw [hv] at hu
  cases hu
  simp only [List.getElem?_map, Option.map_eq_some_iff] at hv
  obtain ⟨c, _, rfl⟩ := hv
  exact .int _ _

include S
theorem loadN_det {i off k : Nat} {m : Img} {cs : List Value} (hi : ρ i = some m) (e : loadN h ⟨i, off, none⟩ k = some cs) :
    ∃ l, VRels ρ cs l ∧ cs.length = k ∧ ∀ (w' : World), w'.heap = w.heap → ∀ es, ∃ es', (loadCells ⟨m.b, m.s + off, none⟩ k).runT P w' es = (.ok ⟨l⟩ w', es') ∧ EvLe pm es es' := by
  have e0 := e
  simp only [loadN] at e
  split at e
  · rename_i el row fx ro hg
    obtain ⟨c, fr, h1, h2, _, _, _, h3, _⟩ := row_of S hi hg
    obtain ⟨l1, l2⟩ := cellsAt_get e
    have cell : ∀ j, j < k → ∃ v, c[m.s + off + j]? = some v := fun j hj => by
      have : ∃ v, row[off + j]? = some v := by
        rw [← l2 j hj]
        exact ⟨_, List.getElem?_eq_getElem (by omega)⟩
      obtain ⟨v, hv⟩ := this
      obtain ⟨u, hu, _⟩ := h2.get _ v hv
      exact ⟨u, by rw [← hu]; congr 1; omega⟩
    obtain ⟨l, es0, r1, r2, r3, r4⟩ := rT_loadCells (P := P) (off := m.s + off) (n := k) h1 h3 cell #[]
    refine ⟨l, ⟨by omega, fun j v u hv hu => ?_⟩, l1, fun w' hw' es => ?_⟩
    · have hj : j < k := by
        have := (List.getElem?_eq_some_iff.1 hv).1
        omega
      rw [l2 j hj] at hv
      rw [r4 j hj] at hu
      obtain ⟨u', hu', hr⟩ := h2.get _ v hv
      have : u' = u := by
        rw [show m.s + (off + j) = m.s + off + j from by omega, hu] at hu'
        exact (Option.some.inj hu').symm
      rw [← this]; exact hr
    · obtain ⟨l', es', q1, q2, q3, q4⟩ := rT_loadCells (P := P) (w := w') (off := m.s + off) (n := k) (by rw [hw']; exact h1) h3 cell es
      have : l' = l := List.ext_getElem? fun j => by
        by_cases hj : j < k
        · rw [q4 j hj, r4 j hj]
        · rw [List.getElem?_eq_none (by omega), List.getElem?_eq_none (by omega)]
      subst this
      exact ⟨es', q1, q2⟩
  · cases e
theorem added_rel {xt sz nx : Nat} {x u : Value} {new : List Value} (hx : VRel ρ x u) (e : addedA T xt sz x h = some (nx, new)) :
    (∃ d, descT T xt = some d ∧ ∀ k, d ≠ .int k) ∧ (∀ es, (Builtin.lenOf u).runT P w es = (.ok nx w, es)) ∧ new.length = nx * sz ∧ ∃ l, VRels ρ new l ∧ ∀ (w' : World), w'.heap = w.heap → ∀ es, ∃ es', (Builtin.firstCells sz nx u).runT P w' es = (.ok ⟨l⟩ w', es') ∧ EvLe pm es es' := by
  unfold addedA at e
  split at e
  · cases e
  · cases e
  · rename_i d hne hd
    refine ⟨⟨d, hd, fun k hk => by subst hk; exact hne k rfl⟩, ?_⟩
    split at e
    · split at e
      · cases e
        cases hx
        exact ⟨fun es => rfl, by simp, [], .nil, fun w' _ es => ⟨es, rfl, .refl _ _⟩⟩
      · cases e
    · rename_i A l c
      split at e
      · rename_i cells hcs
        cases e
        obtain ⟨i, off, m, c', rfl, hi, hcap, rfl⟩ := slice_inv hx
        obtain ⟨l', r1, r2, r3⟩ := loadN_det (P := P) S hi hcs
        exact ⟨fun es => rfl, r2, l', r1, r3⟩
      · cases e
    · rename_i b
      split at e
      · rename_i h1
        obtain rfl := beq_iff.1 h1
        cases e
        cases hx
        exact ⟨fun es => rfl, by rw [List.length_map, Nat.mul_one]; rfl, _, string_cells b, fun w' _ es => ⟨es, rfl, .refl _ _⟩⟩
      · cases e
    · cases e

omit S in
theorem nextslice_le {need c : Nat} (h : c < need) : Builtin.nextslicecap need c ≤ 2 * need + 768 := by
  have grow : ∀ r c, c ≤ 2 * need + 768 → Builtin.growBy need r c ≤ 2 * need + 768 := by
    intro r
    induction r with
    | zero => intro c hc; exact hc
    | succ r ih =>
      intro c hc
      unfold Builtin.growBy
      split
      · exact hc
      · exact ih _ (by omega)
  unfold Builtin.nextslicecap
  split
  · omega
  · split
    · omega
    · exact grow 4 c (by omega)


omit S in
theorem EvLe.mark {es : Array Event} : EvLe pm es (es.push ⟨.mark .noRoom, false, true⟩) := EvLe.push ⟨.inl rfl, rfl, rfl⟩
omit S in
theorem rT_askRoom (k : Nat) (es : Array Event) : ∃ es', (askRoom k).runT P w es = (.ok () w, es') ∧ EvLe pm es es' := by
  unfold askRoom
  split
  · exact ⟨_, rfl, EvLe.mark⟩
  · exact ⟨es, rfl, .refl _ _⟩
omit S in
theorem rT_cap {need c el : Nat} {es : Array Event} : ∃ k, need ≤ k ∧ (choose (.appendCap need c el)).runT P w es = (.ok k { w with drawn := w.drawn + 1 }, es) :=
  ⟨_, Nat.le_add_right _ _, rfl⟩

include K
omit S in
/-- an append that takes a new row -/
theorem grow_run {st xt e : Nat} {te : TI} {base : Option Addr} {sLen c' nx : Nat} {u : Value} {l1 l2 : List Value} (h0 : ts[0]? = some st) (h1 : ts[1]? = some xt) {ti : TI} (ht : T.ty st = some ti) (hd : ti.desc = .slice e) (hte : T.ty e = some te)
    (hx : ∃ d, descT T xt = some d ∧ ∀ k, d ≠ .int k) (hl : ∀ es, (Builtin.lenOf u).runT P w es = (.ok nx w, es)) (hneed : c' < sLen + nx) (hsm : sLen + nx ≤ 1000000) (hby : te.bytes ≤ 1000)
    (ho : ∀ (w' : World), w'.heap = w.heap → ∀ es, ∃ es', (Builtin.firstCells te.size sLen (.slice base sLen c')).runT P w' es = (.ok ⟨l1⟩ w', es') ∧ EvLe pm es es')
    (hn : ∀ (w' : World), w'.heap = w.heap → ∀ es, ∃ es', (Builtin.firstCells te.size nx u).runT P w' es = (.ok ⟨l2⟩ w', es') ∧ EvLe pm es es') :
    ∃ k rest es', sLen + nx ≤ k ∧ rest.size = (k - (sLen + nx)) * te.size ∧ EvLe pm #[] es' ∧
      (Builtin.append_ ts ty #[.slice base sLen c', u]).runT P w #[] = (.ok (.slice (some ⟨w.heap.size, 0, none⟩) (sLen + nx) k) { w with drawn := w.drawn + 1, heap := w.heap.push (.cells (⟨l1⟩ ++ ⟨l2⟩ ++ rest) e) }, es') := by
  obtain ⟨info, z, i1, i2, i3, i4, i5, _⟩ := (K.ty _ _ hte).ex
  obtain ⟨k, hk, hcap⟩ := rT_cap (P := P) (w := w) (need := sLen + nx) (c := c') (el := e) (es := #[])
  obtain ⟨es1, r1, v1⟩ := rT_askRoom (P := P) (w := { w with drawn := w.drawn + 1 }) (pm := pm) (k * te.bytes) #[]
  obtain ⟨es2, r2, v2⟩ := ho { w with drawn := w.drawn + 1 } rfl es1
  obtain ⟨es3, r3, v3⟩ := hn { w with drawn := w.drawn + 1 } rfl es2
  obtain ⟨zv, hz1, hz2, _⟩ := rT_zero K hte
  obtain ⟨d, hxd, hxne⟩ := hx
  obtain ⟨tx, htx, rfl⟩ := descT_inv hxd
  have hzs : zv.cells.size = te.size := by
    have : zv.cells.toList.length = te.size := by rw [cells_list, hz2]; exact (K.ty _ _ hte).len
    simpa using this
  refine ⟨k, Builtin.zeroCells zv.cells (k - (sLen + nx)), es3, hk, by simp [Builtin.zeroCells, hzs], (v1.trans v2).trans v3, ?_⟩
  have z0 : (#[Value.slice base sLen c', u] : Array Value)[0]? = some (.slice base sLen c') := rfl
  have z1 : (#[Value.slice base sLen c', u] : Array Value)[1]? = some u := rfl
  unfold Builtin.append_
  rw [h0, z0, z1]
  dsimp only
  rw [rT_bind (rT_desc K ht), hd]
  dsimp only
  rw [rT_bind (rT_sizeOf K hte), h1]
  dsimp only
  rw [rT_bind (rT_desc K htx)]
  have hmax : IntKind.i64.max = 9223372036854775807 := by decide
  have big : ¬ (((sLen + nx : Nat) : Int) > IntKind.i64.max ∧ (false = true ∨ te.bytes = 0)) := by
    rw [hmax]
    omega
  have big2 : ¬ (Builtin.nextslicecap (sLen + nx) c' * te.bytes > 2 ^ 48) := by
    have q1 := nextslice_le hneed
    have q2 : Builtin.nextslicecap (sLen + nx) c' * te.bytes ≤ 2000768 * 1000 := Nat.mul_le_mul (by omega) hby
    have q3 : 2000768 * 1000 < 2 ^ 48 := by decide
    omega
  rw [rT_bind (rT_pure _)]
  generalize tx.desc = dx at hxne
  cases dx
  case int k' => exact absurd rfl (hxne k')
  all_goals
  simp only [Bool.false_eq_true, if_false]
  rw [rT_bind (hl _), if_neg (by omega), rT_bind (rT_typeInfo i1), i3]
  rw [if_neg (by simpa using big), rT_bind (rT_typeInfo i1), i3, if_neg big2, rT_bind hcap, rT_bind (rT_typeInfo i1), i3, rT_bind r1, rT_bind r2]
  simp only [Bool.not_false, if_true]
  rw [rT_bind r3, rT_bind (hz1 _ _), rT_bind rT_newRow]
  rfl

omit S in
/-- an append in place -/
theorem place_run {st xt e : Nat} {te : TI} {base : Option Addr} {sLen c' nx : Nat} {u : Value} {l2 : List Value} (h0 : ts[0]? = some st) (h1 : ts[1]? = some xt) {ti : TI} (ht : T.ty st = some ti) (hd : ti.desc = .slice e) (hte : T.ty e = some te)
    (hx : ∃ d, descT T xt = some d ∧ ∀ k, d ≠ .int k) (hl : ∀ es, (Builtin.lenOf u).runT P w es = (.ok nx w, es)) (hneed : sLen + nx ≤ c')
    {es1 es2 : Array Event} {w' : World} (hn : (Builtin.firstCells te.size nx u).runT P w #[] = (.ok ⟨l2⟩ w, es1))
    (hs : match base with
      | some a => (storeCells (a.add (sLen * te.size)) l2).runT P w es1 = (.ok () w', es2)
      | none => w' = w ∧ es2 = es1) :
    (Builtin.append_ ts ty #[.slice base sLen c', u]).runT P w #[] = (.ok (.slice base (sLen + nx) c') w', es2) := by
  obtain ⟨d, hxd, hxne⟩ := hx
  obtain ⟨tx, htx, rfl⟩ := descT_inv hxd
  have z0 : (#[Value.slice base sLen c', u] : Array Value)[0]? = some (.slice base sLen c') := rfl
  have z1 : (#[Value.slice base sLen c', u] : Array Value)[1]? = some u := rfl
  unfold Builtin.append_
  rw [h0, z0, z1]
  dsimp only
  rw [rT_bind (rT_desc K ht), hd]
  dsimp only
  rw [rT_bind (rT_sizeOf K hte), h1]
  dsimp only
  rw [rT_bind (rT_desc K htx)]
  rw [rT_bind (rT_pure _)]
  generalize tx.desc = dx at hxne
  cases dx
  case int k' => exact absurd rfl (hxne k')
  all_goals
  simp only [Bool.false_eq_true, if_false]
  rw [rT_bind (hl _), if_pos hneed]
  simp only [Bool.not_false, if_true]
  rw [rT_bind hn]
  cases base with
  | none =>
    obtain ⟨rfl, rfl⟩ := hs
    rfl
  | some a =>
    dsimp only at hs ⊢
    rw [rT_bind hs]
    rfl

omit K in
theorem opv_from {ρ1 : Ren} {h1 : Heap} {s : Sem Next} {v : Value} (A : Eff ρ h w pm n ρ1 h1 w pm n) (B : OpVal P ρ1 h1 w pm n s v h' n') : OpVal P ρ h w pm n s v h' n' := by
  obtain ⟨u, w', es, ρ', pm', b1, b2, b3, b4⟩ := B
  exact ⟨u, w', es, ρ', pm', b1, b2, A.trans b3, b4⟩

/-- a new row behind an append -/
theorem grow_val {st xt e : Nat} {te : TI} {base : Option Addr} {sLen c' nx : Nat} {u : Value} {old new l1 l2 : List Value} (hρ : ρ n = none) (h0 : ts[0]? = some st) (h1 : ts[1]? = some xt) {ti : TI} (ht : T.ty st = some ti) (hd : ti.desc = .slice e) (hte : T.ty e = some te)
    (hx : ∃ d, descT T xt = some d ∧ ∀ k, d ≠ .int k) (hl : ∀ es, (Builtin.lenOf u).runT P w es = (.ok nx w, es)) (hneed : c' < sLen + nx) (hsm : sLen + nx ≤ 1000000) (hby : te.bytes ≤ 1000)
    (hlen : (old ++ new).length ≤ (sLen + nx) * te.size) (q1 : VRels ρ old l1) (q2 : VRels ρ new l2)
    (ho : ∀ (w' : World), w'.heap = w.heap → ∀ es, ∃ es', (Builtin.firstCells te.size sLen (.slice base sLen c')).runT P w' es = (.ok ⟨l1⟩ w', es') ∧ EvLe pm es es')
    (hn : ∀ (w' : World), w'.heap = w.heap → ∀ es, ∃ es', (Builtin.firstCells te.size nx u).runT P w' es = (.ok ⟨l2⟩ w', es') ∧ EvLe pm es es')
    (hcov : (l1 ++ l2).length = (sLen + nx) * te.size)
    (e1 : hput h n (.cells e (catL old new) (some te.size) false) = some h') :
    OpVal P ρ h w pm n (builtin .append ts ty cs ⟨[.slice base sLen c', u]⟩) (.slice (some ⟨n, 0, none⟩) (sLen + nx) (sLen + nx)) h' (Nat.succ n) := by
  obtain ⟨k, rest, es', hk, hrest, hev, hrun⟩ := grow_run K (ty := ty) (pm := pm) h0 h1 ht hd hte hx hl hneed hsm hby ho hn
  have hR : (k - (sLen + nx)) * te.size + (sLen + nx) * te.size = k * te.size := by
    rw [← Nat.add_mul]
    congr 1
    omega
  refine new_val S hρ (fx := some (te.size, k * te.size)) e1 (w' := { w with drawn := w.drawn + 1, heap := w.heap.push (.cells (⟨l1⟩ ++ ⟨l2⟩ ++ rest) e) }) rfl ⟨rfl, rfl, rfl⟩ (u := .slice (some ⟨w.heap.size, 0, none⟩) (sLen + nx) k) (es := es') (rT_v hrun) hev ?_ ?_
  · have hle := Ren.le_set (m := ⟨w.heap.size, 0, some (te.size, k * te.size)⟩) hρ
    rw [catL_eq]
    have qq := (q1.append q2).mono hle
    refine ⟨rfl, ⟨fun j v hj => ?_⟩, (fun hfx => by cases hfx), fun sz hfx => ?_, fun _ => Nat.le_refl _⟩
    · obtain ⟨x, hx1, hx2⟩ := qq.at' hj
      refine ⟨x, ?_, hx2⟩
      have hjl := (List.getElem?_eq_some_iff.1 hx1).1
      rw [Nat.zero_add, ← hx1]
      rw [← Array.getElem?_toList]
      simp only [Array.toList_append]
      rw [List.getElem?_append_left hjl]
    · cases hfx
      refine ⟨_, rfl, ?_, ?_⟩
      · simp only [Array.size_append, hrest]
        have : (Array.mk l1).size + (Array.mk l2).size = (sLen + nx) * te.size := by simpa using hcov
        omega
      · have : (sLen + nx) * te.size ≤ k * te.size := Nat.mul_le_mul_right _ hk
        omega
  · refine .slice (m := ⟨w.heap.size, 0, some (te.size, k * te.size)⟩) (by unfold Ren.set; rw [if_pos rfl]) ?_
    exact ⟨hk, by simp⟩

theorem b_append {st xt : Nat} {s x us ux v : Value} (hρ : n' = Nat.succ n → ρ n = none) (h0 : ts[0]? = some st) (h1 : ts[1]? = some xt) (hs : VRel ρ s us) (hx : VRel ρ x ux) (e : appendA T st xt h n s x = some (.val v h' n')) :
    OpVal P ρ h w pm n (builtin .append ts ty cs ⟨[us, ux]⟩) v h' n' := by
  unfold appendA at e
  split at e
  · rename_i s0 base sLen sCap
    split at e
    · rename_i el sz by' hel
      obtain ⟨ti, te, ht, hd, hte, rfl, rfl⟩ := elemT_inv hel
      split at e
      · rename_i nx new hadd
        obtain ⟨hxd, hlen, hnew, l2, q2, hn⟩ := added_rel (P := P) (w := w) S hx hadd
        rw [nat!_eq] at e
        split at e
        · rename_i hb
          rw [Bool.and_eq_true, Bool.and_eq_true] at hb
          have b1 : sLen + nx ≤ 1000000 := Nat.le_of_ble_eq_true hb.2.1
          have b2 : te.bytes ≤ 1000 := Nat.le_of_ble_eq_true hb.2.2
          split at e
          · rename_i hle
            have hle : sLen + nx ≤ sCap := Nat.le_of_ble_eq_true hle
            obtain ⟨es1, hn1, hn2⟩ := hn w rfl #[]
            split at e
            · -- of nothing, nothing
              split at e
              · rename_i hz
                have hz' : sLen + nx = 0 := hz
                cases e
                cases hs
                have hl2 : l2 = [] := List.length_eq_zero_iff.1 (by rw [← q2.len, hnew, show nx = 0 from by omega]; simp)
                subst hl2
                refine opv_still S (rT_v (u := .slice none (sLen + nx) sCap) (es' := es1) (place_run K h0 h1 ht hd hte hxd hlen hle hn1 ⟨rfl, rfl⟩)) ?_ hn2
                rw [hz']
                exact .nilSlice _ _
              · cases e
            · rename_i A
              obtain ⟨i, off, m, c', rfl, hI, hcap, rfl⟩ := slice_inv hs
              have hle' : sLen + nx ≤ c' := by
                unfold CapOk at hcap
                split at hcap <;> omega
              split at e
              · cases e
                obtain rfl := q2.nil_inv
                exact opv_still S (rT_v (u := .slice (some ⟨m.b, m.s + off, none⟩) (sLen + nx) c') (es' := es1) (place_run K h0 h1 ht hd hte hxd hlen hle' hn1 rfl)) (.slice hI hcap) hn2
              · rename_i hne
                split at e
                · rename_i B hB
                  obtain ⟨i', off', e1, rfl⟩ := addA_eq hB
                  cases e1
                  split at e
                  · rename_i h2 hst
                    cases e
                    obtain ⟨w', es2, r1, r2, r3⟩ := storeN_rel (P := P) (n := n) S hI hst q2 es1
                    refine ⟨.slice (some ⟨m.b, m.s + off, none⟩) (sLen + nx) c', w', es2, ρ, pm, rT_v (place_run K h0 h1 ht hd hte hxd hlen hle' hn1 ?_), .slice hI hcap, r2, hn2.trans r3⟩
                    rw [← Nat.add_assoc] at r1
                    dsimp only
                    rw [add_mk]
                    exact r1
                  · cases e
                · cases e
          · rename_i hle
            have hlt : sCap < sLen + nx := by
              rcases Nat.lt_or_ge sCap (sLen + nx) with h | h
              · exact h
              · have : Nat.ble (Nat.add sLen nx) sCap = true := Nat.ble_eq_true_of_le h
                rw [this] at hle
                cases hle
            split at e
            · -- the first row
              split at e
              · obtain ⟨e1, rfl, rfl⟩ := newA_inv e
                cases hs
                rename_i hz _
                replace hρ := hρ rfl
                simp only [Nat.zero_add] at *
                have g := grow_val (base := none) (c' := sCap) (sLen := 0) (old := []) (l1 := []) K S (ty := ty) (cs := cs) hρ h0 h1 ht hd hte hxd hlen (by omega) (by omega) b2 (by simp [hnew]) .nil q2 (fun w' _ es => ⟨es, rfl, .refl _ _⟩) hn (by rw [List.nil_append, ← q2.len, hnew, Nat.zero_add]) e1
                exact g
              · cases e
            · rename_i A
              obtain ⟨i, off, m, c', rfl, hI, hcap, rfl⟩ := slice_inv hs
              split at e
              · rename_i old hold
                obtain ⟨l1, q1, hold2, ho⟩ := loadN_det (P := P) S hI hold
                have hold2 : old.length = sLen * te.size := hold2
                have hlen1 : (old ++ new).length = (sLen + nx) * te.size := by rw [List.length_append, hold2, hnew, ← Nat.add_mul]
                have hlen2 : (l1 ++ l2).length = (sLen + nx) * te.size := by rw [List.length_append, ← q1.len, ← q2.len, hold2, hnew, ← Nat.add_mul]
                split at e
                · rename_i el' row s' hg
                  split at e
                  · rename_i h2 hck hdl
                    rw [Bool.and_eq_true, Bool.and_eq_true] at hck
                    obtain rfl := beq_iff.1 hck.1
                    obtain rfl := beq_iff.1 hck.2.1
                    have hok := hck.2.2
                    obtain ⟨e1, rfl, rfl⟩ := newA_inv e
                    replace hρ := hρ rfl
                    obtain ⟨c, fr, g1, g2, g3, g4, g5, g6, g7⟩ := row_of S hI hg
                    obtain ⟨Rr, f1, f2, f3⟩ := g4 _ rfl
                    unfold CapOk at hcap
                    rw [f1] at hcap
                    dsimp only at hcap
                    by_cases hin : sLen + nx ≤ c'
                    · -- there was room
                      obtain ⟨es1, hn1, hn2⟩ := hn w rfl #[]
                      have hcap2 : (sLen + nx) * te.size ≤ c' * te.size := Nat.mul_le_mul_right _ hin
                      have hsum : sLen * te.size + nx * te.size = (sLen + nx) * te.size := by rw [← Nat.add_mul]
                      have hl2 : l2.length = nx * te.size := by rw [← q2.len, hnew]
                      obtain ⟨c2, es2, r1, r2, r3, r4⟩ := rT_storeCells (P := P) (off := m.s + off + sLen * te.size) g6 (g7 rfl) (g5 rfl) l2 0 w c es1 g1 (by omega) (cellsOk_rel q2 hok)
                      have hle := Ren.le_set (m := ⟨m.b, m.s + off, some (te.size, Rr - off)⟩) hρ
                      refine ⟨.slice (some ⟨m.b, m.s + off, none⟩) (sLen + nx) c', setB w m.b (.cells c2 el' fr), es2, _, pm, rT_v (place_run K h0 h1 ht hd hte hxd hlen hin hn1 ?_), ?_, move_eff (m' := ⟨m.b, m.s + off, some (te.size, Rr - off)⟩) S hI hg rfl hρ hdl e1 rfl ?_, hn2.trans r2⟩
                      · dsimp only
                        rw [add_mk]
                        exact r1
                      · have : VRel (ρ.set n ⟨m.b, m.s + off, some (te.size, Rr - off)⟩) (.slice (some ⟨n, 0, none⟩) (sLen + nx) (sLen + nx)) (.slice (some ⟨m.b, m.s + off + 0, none⟩) (sLen + nx) c') :=
                          .slice (m := ⟨m.b, m.s + off, some (te.size, Rr - off)⟩) (by unfold Ren.set; rw [if_pos rfl]) ⟨hin, by simp only [Nat.zero_add]; omega⟩
                        exact this
                      · rw [catL_eq]
                        refine ⟨rfl, ⟨fun j v hj => ?_⟩, (fun hfx => by cases hfx), fun sz hfx => ?_, fun _ => g5 rfl⟩
                        · have hjl := (List.getElem?_eq_some_iff.1 hj).1
                          by_cases hjo : j < old.length
                          · rw [List.getElem?_append_left hjo] at hj
                            have hj' := hj
                            simp only [loadN, hg] at hold
                            obtain ⟨k1, k2⟩ := cellsAt_get hold
                            rw [k2 j (by omega)] at hj'
                            obtain ⟨x, hx1, hx2⟩ := g2.get _ _ hj'
                            refine ⟨x, ?_, hx2.mono hle⟩
                            show c2[m.s + off + j]? = _
                            rw [r4, if_neg (by omega), ← hx1]
                            congr 1
                            omega
                          · rw [List.getElem?_append_right (by omega)] at hj
                            obtain ⟨x, hx1, hx2⟩ := q2.at' hj
                            refine ⟨x, ?_, hx2.mono hle⟩
                            show c2[m.s + off + j]? = _
                            have := (List.getElem?_eq_some_iff.1 hj).1
                            rw [r4, if_pos (by omega), ← hx1]
                            congr 1
                            omega
                        · cases hfx
                          exact ⟨_, rfl, by show c2.size = m.s + off + (Rr - off); omega, by omega⟩
                    · -- there was none
                      have A := del_eff (n := n) S (fun vs hvs => by rw [hg] at hvs; cases hvs) hdl
                      refine opv_from S A ?_
                      exact grow_val K A.sim (ty := ty) (cs := cs) hρ h0 h1 ht hd hte hxd hlen (by omega) b1 b2 (by omega) q1 q2 ho hn hlen2 e1
                  · cases e
                · rename_i el' row ro hg
                  obtain ⟨e1, rfl, rfl⟩ := newA_inv e
                  replace hρ := hρ rfl
                  obtain ⟨c, fr, g1, g2, g3, g4, g5, g6, g7⟩ := row_of S hI hg
                  obtain ⟨f1, _⟩ := g3 rfl
                  unfold CapOk at hcap
                  rw [f1] at hcap
                  dsimp only at hcap
                  exact grow_val K S (ty := ty) (cs := cs) hρ h0 h1 ht hd hte hxd hlen (by omega) b1 b2 (by omega) q1 q2 ho hn hlen2 e1
                · cases e
              · cases e
        · cases e
      · cases e
    · cases e
  · cases e
end

end Go.Det
namespace Go.Det

theorem keyEqs_len : ∀ (x y : List Value) (b : Bool), keyEqs x y = some b → x.length = y.length
  | [], [], b, e => rfl
  | [], y :: ys, b, e => by simp [keyEqs] at e
  | x :: xs, [], b, e => by cases x <;> simp [keyEqs] at e
  | x :: xs, y :: ys, b, e => by
    unfold keyEqs at e
    split at e
    · rename_i h _; cases h
    · rename_i k a r k' a' s h1 h2
      cases h1
      cases h2
      split at e
      · split at e
        · simp [keyEqs_len _ _ _ e]
        · split at e
          · rename_i b' hb; simp [keyEqs_len _ _ _ hb]
          · cases e
      · cases e
    · cases e
theorem keyEqs_true : ∀ (x y : List Value), keyEqs x y = some true → x = y
  | [], [], e => rfl
  | [], y :: ys, e => by simp [keyEqs] at e
  | x :: xs, [], e => by cases x <;> simp [keyEqs] at e
  | x :: xs, y :: ys, e => by
    unfold keyEqs at e
    split at e
    · rename_i h _; cases h
    · rename_i k a r k' a' s h1 h2
      cases h1
      cases h2
      split at e
      · rename_i hk
        have := (kindEq_eq _ _).1 hk
        subst this
        split at e
        · rename_i hi
          rw [eqI_eq] at hi
          have := eq_of_beq hi
          subst this
          rw [keyEqs_true _ _ e]
        · split at e <;> cases e
      · cases e
    · cases e
theorem keyEqs_free : ∀ (x y : List Value) (b : Bool), keyEqs x y = some b → afrees x = true ∧ afrees y = true
  | [], [], b, e => ⟨rfl, rfl⟩
  | [], y :: ys, b, e => by simp [keyEqs] at e
  | x :: xs, [], b, e => by cases x <;> simp [keyEqs] at e
  | x :: xs, y :: ys, b, e => by
    unfold keyEqs at e
    split at e
    · rename_i h _; cases h
    · rename_i k a r k' a' s h1 h2
      cases h1
      cases h2
      split at e
      · split at e
        · simpa [afrees, afree] using keyEqs_free _ _ _ e
        · split at e
          · rename_i b' hb; simpa [afrees, afree] using keyEqs_free _ _ _ hb
          · cases e
      · cases e
    · cases e
theorem sameBits_self : ∀ (l : List Value), allInt l = true → ((l.zip l).all fun (x, y) => Instr.sameBits 9999 x y) = true
  | [], _ => rfl
  | .int k a :: r, h => by
    have := sameBits_self r h
    simp only [List.zip_cons_cons, List.all_cons, this, Bool.and_true]
    simp [Instr.sameBits]

section
variable {P : Program} {T : Tbl} (K : TblOk P T) {ρ : Ren} {h h' : Heap} {w : World} {pm : Perm} (S : Sim ρ h w pm) {nt n n' : Nat} {tm : Tmps} {a : Act} (R : TRel ρ nt tm a) {o : Oper}

theorem rT_part_int {t k : Nat} {kk : IntKind} {xs : Array Value} {v : Value} {es : Array Event} (ht : P.underlying t = some (.int kk)) (hv : xs[k]? = some v) : (part t xs k).runT P w es = (.ok v w, es) := by
  have : (isAgg t).runT P w es = (.ok false w, es) := by
    unfold isAgg
    rw [rT_bind (rT_underlying ht)]
    rfl
  unfold part
  rw [rT_bind this]
  simp only [Bool.false_eq_true, if_false]
  rw [hv]
  rfl
theorem rT_equal_int {d t : Nat} {kk k : IntKind} {x y : Int} {es : Array Event} (ht : P.underlying t = some (.int kk)) : (Op.equalIn (d + 1) t (.int k x) (.int k y)).runT P w es = (.ok (x == y) w, es) := by
  unfold Op.equalIn
  rw [rT_bind (rT_underlying ht)]
  simp [rT_pure]
theorem rT_check_int {d t : Nat} {kk k : IntKind} {x : Int} {em : Bool} {es : Array Event} (ht : P.underlying t = some (.int kk)) : (Instr.checkKey em (d + 1) t (.int k x)).runT P w es = (.ok () w, es) := by
  unfold Instr.checkKey
  rw [rT_bind (rT_underlying ht)]
  rfl

theorem equal_loop {xs ys : Array Value} {es : Array Event} : ∀ (fs : List Field) (i : Nat) (rx ry : List Value) (b : Bool), (∀ (j : Nat) f, fs[j]? = some f → f.name ≠ "_" ∧ f.offset = i + j ∧ ∃ k, P.underlying f.type = some (.int k)) →
    rx.length = fs.length → (∀ j v, rx[j]? = some v → xs[i + j]? = some v) → (∀ j v, ry[j]? = some v → ys[i + j]? = some v) → keyEqs rx ry = some b →
    (forIn (m := Sem) fs ((none : Option Bool), ()) fun f __s =>
      if f.name ≠ "_" then do
        let u ← part f.type xs f.offset
        let v ← part f.type ys f.offset
        let e ← Op.equalIn 9999 f.type u v
        if (!e) = true then pure (ForInStep.done (some false, ())) else pure (ForInStep.yield (none, ()))
      else pure (ForInStep.yield (none, ()))).runT P w es = (.ok ((if b then none else some false), ()) w, es)
  | [], i, rx, ry, b, _, hl, _, _, e => by
    have : rx = [] := List.length_eq_zero_iff.1 hl
    subst this
    have : ry = [] := (List.length_eq_zero_iff.1 (keyEqs_len _ _ _ e).symm)
    subst this
    simp only [keyEqs, Option.some.injEq] at e
    subst e
    simp [rT_pure]
  | f :: fs, i, [], ry, b, _, hl, _, _, e => by simp at hl
  | f :: fs, i, x :: rx, [], b, hf, hl, hx, hy, e => by cases x <;> simp [keyEqs] at e
  | f :: fs, i, x :: rx, y :: ry, b, hf, hl, hx, hy, e => by
    unfold keyEqs at e
    split at e
    · rename_i h _; cases h
    · rename_i k a r k' a' s h1 h2
      cases h1
      cases h2
      split at e
      · rename_i hk
        have := (kindEq_eq _ _).1 hk
        subst this
        obtain ⟨f1, f2, kk, f3⟩ := hf 0 f rfl
        have e1 := hx 0 _ rfl
        have e2 := hy 0 _ rfl
        rw [← f2] at e1 e2
        rw [List.forIn_cons, if_pos f1, rT_bind (a := if a == a' then ForInStep.yield (none, ()) else ForInStep.done (some false, ())) (w' := w) (es' := es)]
        · rw [eqI_eq] at e
          by_cases hab : a = a'
          · subst hab
            simp only [BEq.rfl, if_true] at e ⊢
            refine equal_loop fs (i + 1) rx ry b (fun j f hj => ?_) (by simpa using hl) (fun j v hj => ?_) (fun j v hj => ?_) e
            · have := hf (j + 1) f (by simpa using hj)
              rw [show i + 1 + j = i + (j + 1) from by omega]
              exact this
            · rw [show i + 1 + j = i + (j + 1) from by omega]
              exact hx (j + 1) v (by simpa using hj)
            · rw [show i + 1 + j = i + (j + 1) from by omega]
              exact hy (j + 1) v (by simpa using hj)
          · have : (a == a') = false := by simpa using hab
            rw [this] at e ⊢
            dsimp only at e
            split at e
            · cases e
              rfl
            · cases e
        · rw [rT_bind (rT_part_int f3 e1), rT_bind (rT_part_int f3 e2), rT_bind (rT_equal_int (d := 9998) f3)]
          cases hab : a == a' <;> rfl
      · cases e
    · cases e

theorem check_loop {xs : Array Value} {em : Bool} {es : Array Event} : ∀ (fs : List Field) (i : Nat) (rx : List Value), (∀ (j : Nat) f, fs[j]? = some f → f.name ≠ "_" ∧ f.offset = i + j ∧ ∃ k, P.underlying f.type = some (.int k)) →
    rx.length = fs.length → (∀ j v, rx[j]? = some v → xs[i + j]? = some v) → allInt rx = true →
    (forIn (m := Sem) fs PUnit.unit fun f __s =>
      if f.name ≠ "_" then do
        let v ← part f.type xs f.offset
        Instr.checkKey em 9999 f.type v
        pure (ForInStep.yield PUnit.unit)
      else pure (ForInStep.yield PUnit.unit)).runT P w es = (.ok PUnit.unit w, es)
  | [], i, rx, _, hl, _, e => by simp [rT_pure]
  | f :: fs, i, [], _, hl, _, e => by simp at hl
  | f :: fs, i, x :: rx, hf, hl, hx, e => by
    obtain ⟨f1, f2, kk, f3⟩ := hf 0 f rfl
    have e1 := hx 0 _ rfl
    rw [← f2] at e1
    cases x <;> simp only [allInt, Bool.false_eq_true] at e
    rw [List.forIn_cons, if_pos f1, rT_bind (a := ForInStep.yield PUnit.unit) (w' := w) (es' := es)]
    · refine check_loop fs (i + 1) rx (fun j f hj => ?_) (by simpa using hl) (fun j v hj => ?_) e
      · have := hf (j + 1) f (by simpa using hj)
        rw [show i + 1 + j = i + (j + 1) from by omega]
        exact this
      · rw [show i + 1 + j = i + (j + 1) from by omega]
        exact hx (j + 1) v (by simpa using hj)
    · rw [rT_bind (rT_part_int f3 e1), rT_bind (rT_check_int (d := 9998) f3)]
      rfl

include K
/-- a key is one -/
theorem check_rel {k : Nat} {v : Value} (hk : keyOkT T k v = true) (em : Bool) (es : Array Event) : (Instr.checkKey em 10000 k v).runT P w es = (.ok () w, es) := by
  unfold keyOkT at hk
  split at hk
  · split at hk
    · rename_i hd
      obtain ⟨ti, ht, hd'⟩ := descT_inv hd
      exact rT_check_int (d := 9999) (by rw [← hd']; exact (K.ty _ _ ht).under)
    · cases hk
  · rename_i cs
    split at hk
    · rename_i nf hnf
      rw [Bool.and_eq_true, lenL_eq] at hk
      have hlen := beq_iff.1 hk.1
      obtain ⟨⟨fs, g1, g2, g3⟩, _⟩ := K.key _ _ hnf
      show (Instr.checkKey em (9999 + 1) k (.agg cs)).runT P w es = _
      unfold Instr.checkKey
      rw [rT_bind (rT_underlying g1)]
      dsimp only
      rw [← Array.forIn_toList]
      rw [rT_bind (check_loop fs.toList 0 cs.toList (fun j f hj => by rw [Nat.zero_add]; exact g3 j f (by simpa using hj)) (by simp at hlen ⊢; omega) (fun j v hj => by simpa using hj) hk.2)]
      rfl
    · cases hk
  · cases hk

/-- two keys, held against one another -/
theorem equal_rel {k : Nat} {x y : Value} {b : Bool} (hk : keyOkT T k x = true) (e : keyEq x y = some b) (es : Array Event) :
    (Op.equal k x y).runT P w es = (.ok b w, es) := by
  unfold keyEq at e
  split at e
  · rename_i xs ys
    unfold keyOkT at hk
    dsimp only at hk
    split at hk
    · rename_i nf hnf
      rw [Bool.and_eq_true, lenL_eq] at hk
      have hlen := beq_iff.1 hk.1
      obtain ⟨⟨fs, g1, g2, g3⟩, g4⟩ := K.key _ _ hnf
      show (Op.equalIn (9999 + 1) k (.agg xs) (.agg ys)).runT P w es = _
      unfold Op.equalIn
      rw [rT_bind (rT_underlying g1)]
      dsimp only
      rw [rT_bind (x := program) (a := P) rfl, g4]
      simp only [Bool.false_eq_true, if_false]
      rw [← Array.forIn_toList]
      rw [rT_bind (equal_loop fs.toList 0 xs.toList ys.toList b (fun j f hj => by rw [Nat.zero_add]; exact g3 j f (by simpa using hj)) (by simp at hlen ⊢; omega) (fun j v hj => by simpa using hj) (fun j v hj => by simpa using hj) e)]
      cases b <;> rfl
    · cases hk
  · rename_i kx a l b'
    unfold keyOkT at hk
    dsimp only at hk
    split at hk
    · rename_i hd
      obtain ⟨ti, ht, hd'⟩ := descT_inv hd
      split at e
      · rename_i hkk
        have := (kindEq_eq _ _).1 hkk
        subst this
        cases e
        rw [eqI_eq]
        exact rT_equal_int (d := 9999) (by rw [← hd']; exact (K.ty _ _ ht).under)
      · cases e
    · cases hk
  · cases e

omit K in
theorem keyEq_true {x y : Value} (e : keyEq x y = some true) : x = y := by
  unfold keyEq at e
  split at e
  · rename_i xs ys
    have := keyEqs_true _ _ e
    congr 1
    exact Array.ext' this
  · split at e
    · rename_i hk
      have := (kindEq_eq _ _).1 hk
      subst this
      rw [eqI_eq] at e
      simp only [Option.some.injEq] at e
      rw [eq_of_beq e]
    · cases e
  · cases e
omit K in
theorem keyEq_free {x y : Value} {b : Bool} (e : keyEq x y = some b) : lfree x = true ∧ lfree y = true := by
  unfold keyEq at e
  split at e
  · exact keyEqs_free _ _ _ e
  · exact ⟨rfl, rfl⟩
  · cases e
omit K in
theorem keyOk_free {k : Nat} {x : Value} (hk : keyOkT T k x = true) : lfree x = true := by
  have ai : ∀ l, allInt l = true → afrees l = true := by
    intro l
    induction l with
    | nil => intro _; rfl
    | cons v r ih =>
      intro h
      cases v <;> simp only [allInt, Bool.false_eq_true] at h
      simpa [afrees, afree] using ih h
  unfold keyOkT at hk
  split at hk
  · rfl
  · split at hk
    · rw [Bool.and_eq_true] at hk
      exact ai _ hk.2
    · cases hk
  · cases hk
omit K in
theorem keyOk_same {k : Nat} {x : Value} (hk : keyOkT T k x = true) : Instr.sameBits 10000 x x = true := by
  unfold keyOkT at hk
  split at hk
  · simp [Instr.sameBits]
  · split at hk
    · rw [Bool.and_eq_true] at hk
      show Instr.sameBits (9999 + 1) _ _ = true
      unfold Instr.sameBits
      rw [sameBits_self _ hk.2]
      simp
    · cases hk
  · cases hk

/-- the abstract entries, and the true ones -/
def Ents (ρ : Ren) (es : List (Value × Value)) (ents : List MapEntry) : Prop := es.length = ents.length ∧ ∀ (k : Nat) x y, es[k]? = some x → ents[k]? = some y → VRel ρ x.1 y.key ∧ VRel ρ x.2 y.val

omit K in
theorem Ents.tail {x : Value × Value} {es : List (Value × Value)} {y : MapEntry} {ents : List MapEntry} (h : Ents ρ (x :: es) (y :: ents)) : Ents ρ es ents :=
  ⟨by have := h.1; simpa using this, fun k a b ha hb => h.2 (k + 1) a b (by simpa using ha) (by simpa using hb)⟩

/-- where a key is found -/
def FindIs (ρ : Ren) (k : Value) (es : List (Value × Value)) (ents : List MapEntry) (i : Nat) : Option Value → Option (Nat × Value) → Prop
  | none, r => r = none ∧ ∀ v, mapPut k v es = some (es ++ [(k, v)])
  | some v, r => ∃ j y, r = some (i + j, y.val) ∧ ents[j]? = some y ∧ y.key = k ∧ VRel ρ v y.val ∧ ∀ v', mapPut k v' es = some (es.set j (k, v'))

theorem asking_rel {kt : Nat} {k : Value} (hk : keyOkT T kt k = true) : ∀ (es : List (Value × Value)) (ents : List MapEntry) (i : Nat) (r : Option Value) (ev : Array Event), Ents ρ es ents → mapFind k es = some r →
    ∃ q, (Instr.findAsking kt k ents i).runT P w ev = (.ok q w, ev) ∧ FindIs ρ k es ents i r q
  | [], [], i, r, ev, _, e => by
    simp only [mapFind, Option.some.injEq] at e
    subst e
    exact ⟨none, rfl, rfl, fun v => rfl⟩
  | [], _ :: _, i, r, ev, h, e => by have := h.1; simp at this
  | _ :: _, [], i, r, ev, h, e => by have := h.1; simp at this
  | (k', v) :: es, y :: ents, i, r, ev, h, e => by
    obtain ⟨h1, h2⟩ := h.2 0 _ _ rfl rfl
    simp only [mapFind] at e
    split at e
    · rename_i hq
      cases e
      have hkk := keyEq_true hq
      subst hkk
      have hkey := lfree_self h1 (keyOk_free hk)
      have hrun := equal_rel (P := P) (w := w) K hk hq ev
      refine ⟨some (i, y.val), ?_, 0, y, rfl, rfl, hkey, h2, fun v' => ?_⟩
      · unfold Instr.findAsking
        rw [hkey, rT_bind hrun]
        rfl
      · simp [mapPut, hq]
    · rename_i hq
      have hkey := lfree_self h1 (keyEq_free hq).2
      have hrun := equal_rel (P := P) (w := w) K hk hq ev
      obtain ⟨q, g1, g2⟩ := asking_rel hk es ents (i + 1) r ev h.tail e
      refine ⟨q, ?_, ?_⟩
      · unfold Instr.findAsking
        rw [hkey, rT_bind hrun]
        exact g1
      · cases r with
        | none =>
          obtain ⟨g3, g4⟩ := g2
          exact ⟨g3, fun v' => by simp [mapPut, hq, g4]⟩
        | some x =>
          obtain ⟨j, y', g3, g4, g5, g6, g7⟩ := g2
          exact ⟨j + 1, y', by rw [g3]; congr 2; omega, by simpa using g4, g5, g6, fun v' => by simp [mapPut, hq, g7]⟩
    · cases e

omit K in
theorem sameNow_rel {d : TypeDesc} {x y : Value} {b c : Bool} (e : keyEq x y = some b) (h : Instr.sameNow d x y = some c) : c = b := by
  unfold keyEq at e
  split at e
  · unfold Instr.sameNow at h
    split at h <;> first | (rename_i h1 h2; cases h1; done) | cases h
  · rename_i k a l b'
    split at e
    · cases e
      rw [eqI_eq]
      unfold Instr.sameNow at h
      split at h
      · rename_i h1 h2
        cases h1
        cases h2
        split at h
        · cases h; rfl
        · cases h
      · rename_i h1 h2; cases h1
      · rename_i h1 h2; cases h1
      · cases h
    · cases e
  · cases e

theorem now_rel {d : TypeDesc} {kt : Nat} {k : Value} (hk : keyOkT T kt k = true) : ∀ (es : List (Value × Value)) (ents : List MapEntry) (i : Nat) (r : Option Value) (q : Option (Nat × Value)), Ents ρ es ents → mapFind k es = some r →
    Instr.findNow d k ents i = some q → FindIs ρ k es ents i r q
  | [], [], i, r, q, _, e, f => by
    simp only [mapFind, Option.some.injEq] at e
    simp only [Instr.findNow, Option.some.injEq] at f
    subst e f
    exact ⟨rfl, fun v => rfl⟩
  | [], _ :: _, i, r, q, h, e, f => by have := h.1; simp at this
  | _ :: _, [], i, r, q, h, e, f => by have := h.1; simp at this
  | (k', v) :: es, y :: ents, i, r, q, h, e, f => by
    obtain ⟨h1, h2⟩ := h.2 0 _ _ rfl rfl
    simp only [mapFind] at e
    unfold Instr.findNow at f
    split at e
    · rename_i hq
      cases e
      have hkk := keyEq_true hq
      subst hkk
      have hkey := lfree_self h1 (keyOk_free hk)
      rw [hkey] at f
      split at f
      · cases f
        exact ⟨0, y, rfl, rfl, hkey, h2, fun v' => by simp [mapPut, hq]⟩
      · rename_i hs
        have := sameNow_rel hq hs
        cases this
      · cases f
    · rename_i hq
      have hkey := lfree_self h1 (keyEq_free hq).2
      rw [hkey] at f
      split at f
      · rename_i hs
        have := sameNow_rel hq hs
        cases this
      · have g2 := now_rel hk es ents (i + 1) r q h.tail e f
        cases r with
        | none =>
          obtain ⟨g3, g4⟩ := g2
          exact ⟨g3, fun v' => by simp [mapPut, hq, g4]⟩
        | some x =>
          obtain ⟨j, y', g3, g4, g5, g6, g7⟩ := g2
          exact ⟨j + 1, y', by rw [g3]; congr 2; omega, by simpa using g4, g5, g6, fun v' => by simp [mapPut, hq, g7]⟩
      · cases f
    · cases e

theorem find_rel {kt : Nat} {k : Value} {d : TypeDesc} (hd : P.underlying kt = some d) (hk : keyOkT T kt k = true) {es : List (Value × Value)} {ents : List MapEntry} {r : Option Value} (ev : Array Event) (h : Ents ρ es ents) (e : mapFind k es = some r) :
    ∃ q, (Instr.findKey kt k ents).runT P w ev = (.ok q w, ev) ∧ FindIs ρ k es ents 0 r q := by
  unfold Instr.findKey
  rw [rT_bind (rT_underlying hd)]
  cases hn : Instr.findNow d k ents 0 with
  | some q => exact ⟨q, rfl, now_rel K hk es ents 0 r q h e hn⟩
  | none => exact asking_rel K hk es ents 0 r ev h e

theorem rT_zeroV {t : Nat} {v : Value} (e : zeroV T t = some v) : (∀ w es, (zeroValue t).runT P w es = (.ok v w, es)) ∧ VRel ρ v v := by
  unfold zeroV at e
  cases ht : T.ty t with
  | none => rw [ht] at e; cases e
  | some i =>
    rw [ht] at e
    dsimp only at e
    obtain ⟨info, z, h1, _, _, h2, h3, h4, h5⟩ := (K.ty t i ht).ex
    have hf := (K.ty t i ht).free
    have run : ∀ w es, (zeroValue t).runT P w es = (.ok z w, es) := fun w es => by
      unfold zeroValue
      rw [rT_bind (rT_typeInfo h1), h2]
      rfl
    cases ha : i.agg with
    | true =>
      rw [ha] at e
      dsimp only at e
      cases e
      obtain ⟨cs, rfl⟩ := h4 ha
      obtain ⟨cs⟩ := cs
      have : i.zero = cs := h3.symm
      rw [this]
      refine ⟨run, ?_⟩
      rw [this] at hf
      exact lfree_rel hf
    | false =>
      rw [ha] at e
      dsimp only at e
      rw [h5 ha] at e
      simp only [getL, Option.some.injEq] at e
      subst e
      refine ⟨run, ?_⟩
      rw [h5 ha] at hf
      exact afree_rel (afrees_get _ hf 0 _ rfl)

theorem keyOk_under {kt : Nat} {k : Value} (hk : keyOkT T kt k = true) : ∃ d, P.underlying kt = some d := by
  unfold keyOkT at hk
  split at hk
  · split at hk
    · rename_i hd
      obtain ⟨ti, ht, hd'⟩ := descT_inv hd
      exact ⟨_, (K.ty _ _ ht).under⟩
    · cases hk
  · split at hk
    · rename_i hnf
      obtain ⟨⟨fs, g1, _⟩, _⟩ := K.key _ _ hnf
      exact ⟨_, g1⟩
    · cases hk
  · cases hk
omit K in
theorem mapT_inv {t k e : Nat} (hm : mapT T t = some (k, e)) : ∃ ti, T.ty t = some ti ∧ ti.desc = .map k e := by
  unfold mapT at hm
  split at hm
  · rename_i hd
    cases hm
    exact descT_inv hd
  · cases hm
omit K in
theorem map_inv {r : Nat} {u : Value} (hr : VRel ρ (.map (some r)) u) : ∃ m, ρ r = some m ∧ u = .map (some m.b) := by
  cases hr with
  | map e => exact ⟨_, e, rfl⟩
omit K in
theorem rT_getObj {b : Nat} {ents : Array MapEntry} {ck : Nat} {es : Array Event} (h : w.heap[b]? = some (.map ents ck)) : (getObj b).runT P w es = (.ok (.map ents ck) w, es.push ⟨.obj b, false, false⟩) := by
  unfold getObj
  simp only [Sem.runT, h]
  rfl
omit K in
theorem rT_setObj {b : Nat} {ents ents' : Array MapEntry} {ck ck' : Nat} {es : Array Event} (h : w.heap[b]? = some (.map ents ck)) : (setObj b (.map ents' ck')).runT P w es = (.ok () (setB w b (.map ents' ck')), es.push ⟨.obj b, true, false⟩) := by
  unfold setObj
  simp only [Sem.runT, h]
  rfl

include S
omit K in
theorem map_of {r : Nat} {m : Img} {es : List (Value × Value)} (hi : ρ r = some m) (hg : h.get r = some (.map es)) : m.fx = none ∧ (∃ ents ck, w.heap[m.b]? = some (.map ents ck) ∧ Ents ρ es ents.toList) ∧ pm.rd m.b ∧ pm.wr m.b := by
  obtain ⟨o, h1, h2, h3, h4⟩ := (S.at' r m _ hi hg).get (by intro _ h; cases h)
  cases o <;> simp only [ORel] at h2
  obtain ⟨g1, g2, g3⟩ := h2
  exact ⟨g1, ⟨_, _, h1, by simpa using g2, fun k x y hx hy => g3 k x y hx (by simpa using hy)⟩, h3, h4 rfl⟩

include R
theorem s_lookup {t : Nat} {x y : Operand} {ok : Bool} {v : Value} (ho : o.op = .lookup t x y ok) (e : oLookup T t ok h (ev tm x) (ev tm y) = some v) : OpVal P ρ h w pm n (execOp a.eval o) v h n := by
  simp only [execOp, ho]
  unfold oLookup at e
  split at e
  · rename_i r k hx hy
    obtain ⟨m, hi, hu⟩ := map_inv (ev_rel S.glob R hx)
    have hkr := ev_rel S.glob R hy
    split at e
    · rename_i kt et es hmt hg
      obtain ⟨ti, ht, hd⟩ := mapT_inv hmt
      obtain ⟨_, ⟨ents, ck, g1, g2⟩, g3, _⟩ := map_of S hi hg
      have pre : ∀ {r' : Option Value}, keyOkT T kt k = true → mapFind k es = some r' → ∃ q, FindIs ρ k es ents.toList 0 r' q ∧ (Instr.lookup t (a.eval x) (a.eval y) ok).runT P w #[] =
          (match q with
            | some (_, v) => pure (if ok then .tuple #[v, .bool true] else v)
            | none => do
              let z ← zeroValue et
              pure (if ok then .tuple #[z, .bool false] else z) : Sem Value).runT P w (#[].push ⟨.obj m.b, false, false⟩) := by
        intro r' hk hf
        obtain ⟨dk, hdk⟩ := keyOk_under K hk
        rw [lfree_self hkr (keyOk_free hk)]
        obtain ⟨q, f1, f2⟩ := find_rel (P := P) (w := w) K hdk hk (#[].push ⟨.obj m.b, false, false⟩) g2 hf
        refine ⟨q, f2, ?_⟩
        unfold Instr.lookup
        rw [rT_bind (rT_desc K ht), hd, hu]
        dsimp only
        rw [rT_bind (rT_getObj g1)]
        dsimp only
        rw [rT_bind (rT_pure _), rT_bind (check_rel K hk _ _), rT_bind f1]
        cases q with
        | none => rfl
        | some p => rfl
      have ev : EvLe pm #[] (#[].push ⟨.obj m.b, false, false⟩) := EvLe.push ⟨g3, by simp, rfl⟩
      have tup : ∀ {z z' : Value} {b : Bool}, VRel ρ z z' → VRel ρ (bif ok then Value.tuple ⟨[z, .bool b]⟩ else z) (if ok then .tuple #[z', .bool b] else z') := by
        intro z z' b hz
        cases ok with
        | true => exact .tuple rfl (VRels.cons hz (VRels.cons (.bool b) .nil)).get
        | false => exact hz
      split at e
      · rename_i z hk hf
        cases e
        obtain ⟨q, f2, hr⟩ := pre hk hf
        obtain ⟨j, y', rfl, _, _, f3, _⟩ := f2
        exact opv_still S (rT_v hr) (tup f3) ev
      · rename_i hk hf
        split at e
        · rename_i z hz
          cases e
          obtain ⟨q, f2, hr⟩ := pre hk hf
          obtain ⟨rfl, _⟩ := f2
          obtain ⟨z1, z2⟩ := rT_zeroV (ρ := ρ) K hz
          refine opv_still S (rT_v (hr.trans ?_)) (tup z2) ev
          dsimp only
          rw [rT_bind (z1 _ _)]
          rfl
        · cases e
      · cases e
    · cases e
  · cases e

theorem s_mapUpdate {t : Nat} {x y z : Operand} (ho : o.op = .mapUpdate t x y z) (e : oMapUpdate T t h (ev tm x) (ev tm y) (ev tm z) = some h') : OpSkip P ρ h w pm n (execOp a.eval o) h' n := by
  simp only [execOp, ho]
  unfold oMapUpdate at e
  split at e
  · rename_i r k v hx hy hz
    obtain ⟨m, hi, hu⟩ := map_inv (ev_rel S.glob R hx)
    have hkr := ev_rel S.glob R hy
    have hv := ev_rel S.glob R hz
    split at e
    · rename_i kt et es hmt hg
      obtain ⟨ti, ht, hd⟩ := mapT_inv hmt
      obtain ⟨gx, ⟨ents, ck, g1, g2⟩, g3, g4⟩ := map_of S hi hg
      split at e
      · rename_i es' hk hput
        obtain ⟨dk, hdk⟩ := keyOk_under K hk
        have hkey := lfree_self hkr (keyOk_free hk)
        have hfind : ∃ r', mapFind k es = some r' := by
          have : ∀ (l l' : List (Value × Value)), mapPut k v l = some l' → ∃ r', mapFind k l = some r' := by
            intro l
            induction l with
            | nil => intro l' _; exact ⟨none, rfl⟩
            | cons p r ih =>
              intro l' hl
              obtain ⟨k', v'⟩ := p
              simp only [mapPut] at hl
              simp only [mapFind]
              split at hl
              · exact ⟨_, rfl⟩
              · split at hl
                · rename_i s hs
                  exact ih _ hs
                · cases hl
              · cases hl
          exact this _ _ hput
        obtain ⟨r', hf⟩ := hfind
        obtain ⟨q, f1, f2⟩ := find_rel (P := P) (w := w) K hdk hk (#[].push ⟨.obj m.b, false, false⟩) g2 hf
        have go : ∀ {ents' : Array MapEntry} {ck' : Nat}, (Instr.mapUpdate t (a.eval x) (a.eval y) (a.eval z)).runT P w #[] = (.ok () (setB w m.b (.map ents' ck')), (#[].push ⟨.obj m.b, false, false⟩).push ⟨.obj m.b, true, false⟩) → Ents ρ es' ents'.toList →
            OpSkip P ρ h w pm n (do Instr.mapUpdate t (a.eval x) (a.eval y) (a.eval z); pure .skip) h' n := by
          intro ents' ck' hr hen
          have e1 : EvIn pm ⟨.obj m.b, false, false⟩ := ⟨g3, by simp, rfl⟩
          have e2 : EvIn pm ⟨.obj m.b, true, false⟩ := ⟨g3, fun _ => g4, rfl⟩
          refine ⟨_, _, ρ, pm, rT_u hr, set_eff S hi hg rfl e ?_, (EvLe.push e1).trans (EvLe.push e2)⟩
          exact ⟨gx, by simpa using hen.1, fun j a b ha hb => hen.2 j a b ha (by simpa using hb)⟩
        have pre : (Instr.mapUpdate t (a.eval x) (a.eval y) (a.eval z)).runT P w #[] = (match q with
            | some (i, _) => do
              let key ← Instr.keyThatStays (((ents[i]?).map (·.key)).getD k) k
              setObj m.b (.map (ents.modify i fun e => { e with key, val := a.eval z }) ck)
            | none => setObj m.b (.map (ents.push { key := k, val := a.eval z, born := ck }) (ck + 1)) : Sem Unit).runT P w (#[].push ⟨.obj m.b, false, false⟩) := by
          unfold Instr.mapUpdate
          rw [rT_bind (rT_desc K ht), hd, hu]
          dsimp only
          rw [rT_bind (rT_getObj g1)]
          dsimp only
          rw [hkey, rT_bind (check_rel K hk _ _), rT_bind f1]
          cases q with
          | none => rfl
          | some p => rfl
        cases r' with
        | none =>
          obtain ⟨rfl, f3⟩ := f2
          rw [f3 v] at hput
          cases hput
          refine go (ents' := ents.push { key := k, val := a.eval z, born := ck }) (ck' := ck + 1) (pre.trans (rT_setObj g1)) ⟨by have := g2.1; simp at this ⊢; omega, fun j p e' hp he => ?_⟩
          have gl := g2.1
          simp only [Array.toList_push] at he
          by_cases hj : j < es.length
          · rw [List.getElem?_append_left hj] at hp
            rw [List.getElem?_append_left (by omega)] at he
            exact g2.2 j p e' hp he
          · rw [List.getElem?_append_right (by omega)] at hp
            rw [List.getElem?_append_right (by omega), ← gl] at he
            cases hj' : j - es.length with
            | zero =>
              rw [hj'] at hp he
              cases hp
              cases he
              exact ⟨lfree_rel (keyOk_free hk), hv⟩
            | succ j' =>
              rw [hj'] at hp
              simp at hp
        | some v0 =>
          obtain ⟨j, y', rfl, f3, f4, f5, f6⟩ := f2
          rw [f6 v] at hput
          cases hput
          have f3' : ents[0 + j]? = some y' := by rw [Nat.zero_add]; simpa using f3
          refine go (ents' := ents.modify (0 + j) fun e => { e with key := k, val := a.eval z }) (ck' := ck) (pre.trans ?_) ⟨by have := g2.1; simp at this ⊢; omega, fun i p e' hp he => ?_⟩
          · dsimp only
            rw [f3']
            simp only [Option.map_some, Option.getD_some, f4]
            have : (Instr.keyThatStays k k).runT P w (#[].push ⟨.obj m.b, false, false⟩) = (.ok k w, #[].push ⟨.obj m.b, false, false⟩) := by
              unfold Instr.keyThatStays
              rw [keyOk_same hk]
              rfl
            rw [rT_bind this]
            exact rT_setObj g1
          · simp only [Nat.zero_add, Array.getElem?_toList, Array.getElem?_modify] at he
            by_cases hij : j = i
            · subst hij
              have hp' : p = (k, v) := by
                rw [List.getElem?_set] at hp
                simp at hp
                exact hp.2.symm
              subst hp'
              have f3'' : ents[j]? = some y' := by simpa using f3
              simp [f3''] at he
              subst he
              exact ⟨lfree_rel (keyOk_free hk), hv⟩
            · rw [if_neg hij] at he
              rw [List.getElem?_set_ne hij] at hp
              exact g2.2 i p e' hp (by simpa using he)
      · cases e
    · cases e
  · cases e
end

end Go.Det
namespace Go.Det

/-- an operation comes to a call of this function with these values -/
def OpCall (P : Program) (ρ : Ren) (w : World) (pm : Perm) (s : Sem Next) (f : Nat) (args : List Value) : Prop :=
  ∃ us es, (∃ s', s.runT P w #[] = (callFunc f ⟨us⟩).runT P w es ∧ s' = es) ∧ VRels ρ args us ∧ EvLe pm #[] es

section
variable {P : Program} {T : Tbl} (K : TblOk P T) {ρ : Ren} {h h' : Heap} {w : World} {pm : Perm} (S : Sim ρ h w pm) {nt n n' : Nat} {tm : Tmps} {a : Act} (R : TRel ρ nt tm a) {o : Oper}
include S R

theorem s_callValue {c : Go.Call} {x : Operand} {g : Nat} {as args : List Value} (ho : o.op = .call c) (hc : c.callee = .value x) (ha : evs tm c.args.toList = some as) (e : enterA as (ev tm x) = some (.enter g args)) : OpCall P ρ w pm (execOp a.eval o) g args := by
  simp only [execOp, ho]
  unfold enterA at e
  split at e
  · rename_i g' first captured hx
    cases e
    have r := ev_rel S.glob R hx
    have ra := evs_rel S.glob R ha
    generalize hq : a.eval x = q at r
    cases r with
    | func l1 g1 l2 g2 =>
      rename_i f1 c1 f2 c2
      refine ⟨f2 ++ (c.args.toList.map a.eval ++ c2), #[], ⟨_, ?_, rfl⟩, ?_, .refl _ _⟩
      · have hr : (resolve a.eval c o.type).runT P w #[] = (.ok { target := .fn (.func g) ⟨c2⟩, args := ⟨f2⟩ ++ c.args.map a.eval } w, #[]) := by
          unfold resolve
          rw [hc]
          dsimp only
          rw [hq]
          rfl
        rw [rT_bind hr]
        show (callFunc g ((⟨f2⟩ ++ c.args.map a.eval) ++ ⟨c2⟩)).runT P w #[] = _
        congr 2
        apply Array.ext'
        simp
      · rw [catL_eq, catL_eq]
        exact VRels.append ⟨l1, g1⟩ (ra.append ⟨l2, g2⟩)
  · cases e

include K
theorem s_invoke {c : Go.Call} {x : Operand} {name : String} {g : Nat} {as args : List Value} (ho : o.op = .call c) (hc : c.callee = .invoke x name) (ha : evs tm c.args.toList = some as) (e : invokeA P T name h as (ev tm x) = some (.enter g args)) : OpCall P ρ w pm (execOp a.eval o) g args := by
  simp only [execOp, ho]
  unfold invokeA at e
  split at e
  · rename_i t v hx
    have r := ev_rel S.glob R hx
    have ra := evs_rel S.glob R ha
    generalize hq : a.eval x = q at r
    cases r with
    | iface rv =>
      rename_i u
      have hr : (resolve a.eval c o.type).runT P w #[] = (.ok { target := .fn (.method name) #[], args := #[.iface t u] ++ c.args.map a.eval } w, #[]) := by
        unfold resolve
        rw [hc]
        dsimp only
        rw [hq]
        rfl
      have step : ∀ {f : Nat} {rc : Value} {es : Array Event}, (method (P.types.size + Made.depth) t u name).runT P w #[] = (.ok (f, rc) w, es) →
          (do let d ← resolve a.eval c o.type; invoke d.target d.args : Sem Next).runT P w #[] = (callFunc f ⟨rc :: c.args.toList.map a.eval⟩).runT P w es := by
        intro f rc es hm
        rw [rT_bind hr]
        show (do
          let some recv := (#[Value.iface t u] ++ c.args.map a.eval)[0]? | stuck "call: a method without a receiver"
          callMethod recv name ((#[Value.iface t u] ++ c.args.map a.eval).extract 1 (#[Value.iface t u] ++ c.args.map a.eval).size) : Sem Next).runT P w #[] = _
        have z0 : (#[Value.iface t u] ++ c.args.map a.eval)[0]? = some (.iface t u) := by
          rw [Array.getElem?_append_left (by simp)]
          rfl
        have z1 : (#[Value.iface t u] ++ c.args.map a.eval).extract 1 (#[Value.iface t u] ++ c.args.map a.eval).size = c.args.map a.eval := by
          apply Array.ext'
          simp only [Array.toList_extract, Array.toList_append, Array.toList_map, Array.size_append, Array.size_map]
          simp [List.take_of_length_le]
        rw [z0, z1]
        dsimp only
        unfold callMethod
        dsimp only
        rw [rT_bind (x := program) (a := P) rfl, rT_bind hm]
        congr 2
        apply Array.ext'
        simp
      split at e
      · rename_i f hm
        cases e
        refine ⟨u :: c.args.toList.map a.eval, #[], ⟨_, step ?_, rfl⟩, .cons rv ra, .refl _ _⟩
        unfold methodA at hm
        split at hm
        · rename_i info hi
          split at hm
          · rename_i m hf
            split at hm
            · rename_i f' hpath hfunc
              split at hm
              · rename_i u' hp
                cases hm
                have hd : ∃ ti, T.ty t = some ti ∧ ti.desc = .pointer u' := by
                  unfold ptrElem at hp
                  split at hp
                  · rename_i hd; cases hp; exact descT_inv hd
                  · cases hp
                obtain ⟨ti, hti, hdd⟩ := hd
                show (method ((P.types.size + 99) + 1) t u name).runT P w #[] = _
                unfold method
                rw [rT_bind (rT_typeInfo hi)]
                simp only [hf, hpath, hfunc]
                rw [rT_bind (x := follow [] t (.val u)) (a := (t, Place.val u)) rfl]
                dsimp only
                rw [rT_bind (x := receiverAt t (.val u) true _) (a := u) (w' := w) (es' := #[])]
                · rfl
                · unfold receiverAt
                  rw [rT_bind (rT_desc K hti), hdd]
                  rfl
              · cases hm
            · split at hm
              · split at hm
                · split at hm <;> cases hm
                · cases hm
              · cases hm
            · cases hm
          · cases hm
        · cases hm
      · rename_i f ft off hm
        split at e
        · rename_i A
          split at e
          · rename_i B hB
            obtain ⟨i, off', rfl, rfl⟩ := addA_eq hB
            split at e
            · rename_i rcv hl
              cases e
              obtain ⟨m0, hi0, hu0⟩ := ptr_inv rv
              subst hu0
              obtain ⟨ur, es', q1, q2, q3⟩ := loadT_rel K S hi0 hl #[]
              refine ⟨ur :: c.args.toList.map a.eval, es', ⟨_, step ?_, rfl⟩, .cons q3 ra, q2⟩
              unfold methodA at hm
              split at hm
              · rename_i info hi
                split at hm
                · rename_i m hf
                  split at hm
                  · split at hm <;> cases hm
                  · rename_i s f' hpath hfunc
                    split at hm
                    · rename_i hder
                      split at hm
                      · rename_i ft' off'' hft
                        split at hm
                        · rename_i z hsz hnp
                          cases hm
                          obtain ⟨ti, fs, fd, t1, t2, t3, rfl, rfl⟩ := fieldT_inv hft
                          obtain ⟨tf, tf1, tf2⟩ := sizeT_inv hsz
                          have np : ∀ u', tf.desc ≠ .pointer u' := by
                            intro u' hu'
                            unfold ptrElem at hnp
                            have : descT T fd.type = some (.pointer u') := by simp [descT, tf1, hu']
                            rw [this] at hnp
                            cases hnp
                          show (method ((P.types.size + 99) + 1) t _ name).runT P w #[] = _
                          unfold method
                          rw [rT_bind (rT_typeInfo hi)]
                          simp only [hf, hpath, hfunc]
                          have hfol : (follow [s] t (.val (.pointer (some ⟨m0.b, m0.s + off', none⟩)))).runT P w #[] = (.ok (fd.type, Place.var ⟨m0.b, m0.s + off' + fd.offset, none⟩) w, #[]) := by
                            unfold follow
                            rw [rT_bind (rT_desc K t1), t2]
                            dsimp only
                            rw [t3]
                            dsimp only
                            rw [hder]
                            simp only [if_true]
                            rw [rT_bind (x := Place.get t _) (a := Value.pointer (some ⟨m0.b, m0.s + off', none⟩)) (w' := w) (es' := #[]) rfl]
                            rw [rT_bind (x := asAddr _) (a := ⟨m0.b, m0.s + off', none⟩) rfl]
                            rw [rT_bind (x := fieldPlace _ fd) (a := ⟨m0.b, m0.s + off' + fd.offset, none⟩) (w' := w) (es' := #[])]
                            · rfl
                            · unfold fieldPlace
                              rw [rT_bind (rT_sizeOf K tf1), tf2]
                              simp only [Nat.succ_ne_zero, if_false]
                              rw [add_mk]
                              rfl
                          rw [rT_bind hfol]
                          dsimp only
                          rw [rT_bind (x := receiverAt fd.type _ false _) (a := ur) (w' := w) (es' := es')]
                          · rfl
                          · unfold receiverAt
                            rw [rT_bind (rT_desc K tf1)]
                            rw [← Nat.add_assoc] at q1
                            generalize hdx : tf.desc = dx at np
                            cases dx
                            case pointer u' => exact absurd rfl (np u')
                            all_goals exact q1
                        · cases hm
                      · cases hm
                    · cases hm
                  · cases hm
                · cases hm
              · cases hm
            · cases e
          · cases e
        · cases e
      · cases e
  · cases e
end

end Go.Det
namespace Go.Det

/-- a receive over a channel -/
def OpRecv (P : Program) (ρ : Ren) (w : World) (s : Sem Next) (ok : Bool) (z : Value) (c : Nat) : Prop :=
  ∃ m, ρ c = some m ∧ VRel ρ z z ∧ s.runT P w #[] = (.ok (.comm #[{ chan := .chan (some m.b), send := none, zero := z }] true (.recv ok)) w, #[])

/-- a send over a channel -/
def OpSend (P : Program) (ρ : Ren) (w : World) (s : Sem Next) (c : Nat) (v : Value) : Prop :=
  ∃ m, ρ c = some m ∧ s.runT P w #[] = (.ok (.comm #[{ chan := .chan (some m.b), send := some v, zero := .tuple #[] }] true .send) w, #[])

/-- what is told of an operation holds -/
def OpIs (P : Program) (ρ : Ren) (h : Heap) (w : World) (pm : Perm) (n : Nat) (s : Sem Next) : AR → Prop
  | .val v h' n' => OpVal P ρ h w pm n s v h' n'
  | .skip h' n' => OpSkip P ρ h w pm n s h' n'
  | .enter f args => OpCall P ρ w pm s f args
  | .recv ok z c => OpRecv P ρ w s ok z c
  | .send c v => OpSend P ρ w s c v ∧ afree v = true

theorem newA_isVal {h : Heap} {n : Nat} {ob : AObj} {u : Value} {ar : AR} (e : newA h n ob u = some ar) : ∃ v h' n', ar = .val v h' n' := by
  unfold newA at e
  split at e
  · rw [nat!_eq] at e
    cases e
    exact ⟨_, _, _, rfl⟩
  · cases e
theorem newA_isVal' {h : Heap} {n : Nat} {o : AObj} {v : Value} {ar : AR} (e : newA h n o v = some ar) : ∃ v h', ar = .val v h' (Nat.succ n) := by
  unfold newA at e
  split at e
  · rw [nat!_eq] at e; cases e; exact ⟨_, _, rfl⟩
  · cases e
theorem valA_inv {h : Heap} {n : Nat} {x : Option Value} {ar : AR} (e : valA h n x = some ar) : ∃ v, x = some v ∧ ar = .val v h n := by
  cases x with
  | none => cases e
  | some v => cases e; exact ⟨v, rfl, rfl⟩
theorem skipA_inv {n : Nat} {x : Option Heap} {ar : AR} (e : skipA n x = some ar) : ∃ h', x = some h' ∧ ar = .skip h' n := by
  cases x with
  | none => cases e
  | some v => cases e; exact ⟨v, rfl, rfl⟩

section
variable {P : Program} {T : Tbl} (K : TblOk P T) {ρ : Ren} {h h' : Heap} {w : World} {pm : Perm} (S : Sim ρ h w pm) {nt n n' : Nat} {tm : Tmps} {a : Act} (R : TRel ρ nt tm a) {o : Oper}
include K S R

theorem s_builtin {c : Go.Call} {b : Builtin} {as : List Value} {ar : AR} (hn : ∀ v h', ar = .val v h' (Nat.succ n) → ρ n = none) (ho : o.op = .call c) (hc : c.callee = .builtin b) (ha : evs tm c.args.toList = some as) (e : oBuiltin T b c.argTypes.toList h n as = some ar) : OpIs P ρ h w pm n (execOp a.eval o) ar := by
  simp only [execOp, ho]
  have ra := evs_rel S.glob R ha
  have hr : (resolve a.eval c o.type).runT P w #[] = (.ok { target := .builtin b c.argTypes o.type (c.args.map fun | .const _ => true | _ => false), args := c.args.map a.eval } w, #[]) := by
    unfold resolve
    rw [hc]
    rfl
  obtain ⟨us, hus⟩ : ∃ us, c.args.toList.map a.eval = us := ⟨_, rfl⟩
  have harr : c.args.map a.eval = ⟨us⟩ := by apply Array.ext'; simp [← hus]
  rw [hus] at ra
  have hrun : (do let d ← resolve a.eval c o.type; invoke d.target d.args : Sem Next).runT P w #[] = (builtin b c.argTypes o.type (c.args.map fun | .const _ => true | _ => false) ⟨us⟩).runT P w #[] := by
    rw [rT_bind hr, ← harr]
    rfl
  generalize hcs : (c.args.map fun | .const _ => true | _ => false) = cs at hrun
  have lift : ∀ {v : Value} {h' : Heap} {n' : Nat}, OpVal P ρ h w pm n (builtin b c.argTypes o.type cs ⟨us⟩) v h' n' → OpVal P ρ h w pm n (do let d ← resolve a.eval c o.type; invoke d.target d.args) v h' n' := by
    rintro v h' n' ⟨u, w', es, ρ', pm', x1, x2⟩
    exact ⟨u, w', es, ρ', pm', hrun.trans x1, x2⟩
  have tget : ∀ {t : Nat} {r : List Nat}, c.argTypes.toList = t :: r → c.argTypes[0]? = some t := fun {t r} ht => by rw [← Array.getElem?_toList, ht]; rfl
  unfold oBuiltin at e
  split at e <;> dsimp only at e
  · -- len
    split at e
    · rename_i x t r ht
      obtain ⟨v, hv, rfl⟩ := valA_inv e
      obtain ⟨u, us', rfl, q1, q2⟩ := ra.cons_inv
      obtain rfl := q2.nil_inv
      exact lift (b_len K S (tget ht) q1 hv)
    · cases e
  · -- append
    split at e
    · rename_i s x st xt ht
      obtain ⟨u, us', rfl, q1, q2⟩ := ra.cons_inv
      obtain ⟨ux, us'', rfl, q3, q4⟩ := q2.cons_inv
      obtain rfl := q4.nil_inv
      have t1 : c.argTypes[1]? = some xt := by rw [← Array.getElem?_toList, ht]; rfl
      obtain ⟨v, h', n', rfl⟩ : ∃ v h' n', ar = .val v h' n' := by
        unfold appendA at e
        split at e
        · split at e
          · split at e
            · rw [nat!_eq] at e
              split at e
              · split at e
                · split at e
                  · split at e
                    · cases e; exact ⟨_, _, _, rfl⟩
                    · cases e
                  · split at e
                    · cases e; exact ⟨_, _, _, rfl⟩
                    · split at e
                      · split at e
                        · cases e; exact ⟨_, _, _, rfl⟩
                        · cases e
                      · cases e
                · split at e
                  · split at e
                    · exact newA_isVal e
                    · cases e
                  · split at e
                    · split at e
                      · split at e
                        · exact newA_isVal e
                        · cases e
                      · exact newA_isVal e
                      · cases e
                    · cases e
              · cases e
            · cases e
          · cases e
        · cases e
      exact lift (b_append K S (fun hn' => hn _ _ (by rw [hn'])) (tget ht) t1 q1 q3 e)
    · cases e
  · -- max
    split at e
    · rename_i x r
      obtain ⟨v, hv, rfl⟩ := valA_inv e
      obtain ⟨u, us', rfl, q1, q2⟩ := ra.cons_inv
      exact lift (b_max S q1 q2 hv)
    · cases e
  · -- min
    split at e
    · rename_i x r
      obtain ⟨v, hv, rfl⟩ := valA_inv e
      obtain ⟨u, us', rfl, q1, q2⟩ := ra.cons_inv
      exact lift (b_min S q1 q2 hv)
    · cases e
  · -- unsafe.SliceData
    split at e
    · rename_i x
      obtain ⟨v, hv, rfl⟩ := valA_inv e
      obtain ⟨u, us', rfl, q1, q2⟩ := ra.cons_inv
      obtain rfl := q2.nil_inv
      exact lift (b_sliceData S q1 hv)
    · cases e
  · -- unsafe.String
    split at e
    · rename_i p l pt r ht
      obtain ⟨u, us', rfl, q1, q2⟩ := ra.cons_inv
      obtain ⟨ux, us'', rfl, q3, q4⟩ := q2.cons_inv
      obtain rfl := q4.nil_inv
      obtain ⟨v, h', n', rfl⟩ : ∃ v h' n', ar = .val v h' n' := by
        unfold oUnsafeString at e
        split at e
        · split at e
          · cases e; exact ⟨_, _, _, rfl⟩
          · split at e
            · split at e
              · split at e
                · split at e
                  · split at e
                    · rename_i l' _ _ _ _ _ _ _ _ _ _ _ _ _ _ _ _ _ _
                      revert e
                      cases Nat.blt _ 1000000 with
                      | false => intro e; cases e
                      | true => intro e; cases e; exact ⟨_, _, _, rfl⟩
                    · cases e
                  · cases e
                · cases e
              · cases e
            · cases e
          · cases e
        · cases e
      exact lift (b_string K S (tget ht) q1 q3 e)
    · cases e
  · cases e

theorem s_recv {t : Nat} {x : Operand} {ok : Bool} {ar : AR} (ho : o.op = .recv t x ok) (e : oRecv T t ok (ev tm x) = some ar) : OpIs P ρ h w pm n (execOp a.eval o) ar := by
  simp only [execOp, ho]
  unfold oRecv at e
  split at e
  · rename_i c hx
    have r := ev_rel S.glob R hx
    split at e
    · rename_i z _ hz
      cases e
      unfold recvT at hz
      split at hz
      · rename_i d el hd
        obtain ⟨ti, ht, hd'⟩ := descT_inv hd
        obtain ⟨z1, z2⟩ := rT_zeroV (ρ := ρ) K hz
        generalize hq : a.eval x = q at r
        cases r with
        | chan hc =>
          refine ⟨_, hc, z2, ?_⟩
          rw [rT_bind (rT_desc K ht), hd']
          dsimp only
          rw [rT_bind (z1 _ _)]
          rfl
      · cases hz
    · cases e
  · cases e

theorem s_send {x y : Operand} {ar : AR} (ho : o.op = .send x y) (e : oSend T (ev tm x) (ev tm y) = some ar) : OpIs P ρ h w pm n (execOp a.eval o) ar := by
  simp only [execOp, ho]
  unfold oSend at e
  split at e
  · rename_i c v hx hy
    have r := ev_rel S.glob R hx
    have ry := ev_rel S.glob R hy
    split at e
    · rename_i _ hf
      cases e
      have hv := afree_self ry hf
      generalize hq : a.eval x = q at r
      cases r with
      | chan hc =>
        refine ⟨⟨_, hc, ?_⟩, hf⟩
        rw [hv]
        rfl
    · cases e
  · cases e

/-- who receives, and who sends -/
theorem op_main {f : Tmps → Heap → Nat → Option AR} (ho : opC P T o.op = .mk f) : (∀ ok z c, f tm h n = some (.recv ok z c) → T.main = true) ∧ (∀ c v, f tm h n = some (.send c v) → T.main = false) := by
  have vN : ∀ {x : Option Value} {ar : AR}, valA h n x = some ar → ∃ v h' n', ar = .val v h' n' := fun e => let ⟨v, _, q⟩ := valA_inv e; ⟨v, _, _, q⟩
  have sN : ∀ {n : Nat} {x : Option Heap} {ar : AR}, skipA n x = some ar → ∃ h' n', ar = .skip h' n' := fun e => let ⟨h', _, q⟩ := skipA_inv e; ⟨h', _, q⟩
  have key : ∀ ar, f tm h n = some ar → (∃ v h' n', ar = .val v h' n') ∨ (∃ h' n', ar = .skip h' n') ∨ (∃ g as, ar = .enter g as) ∨ (∃ ok z c, ar = .recv ok z c ∧ T.main = true) ∨ (∃ c v, ar = .send c v ∧ T.main = false) := by
    intro ar e
    unfold opC at ho
    split at ho
    case h_27 c =>
      split at ho
      · cases ho
        dsimp only at e
        split at e
        · unfold invokeA at e
          repeat' (split at e)
          all_goals first | (cases e; exact .inr (.inr (.inl ⟨_, _, rfl⟩))) | (cases e; done)
        · cases e
      · cases ho
        dsimp only at e
        unfold oCall at e
        split at e
        · split at e
          · unfold enterA at e
            split at e <;> first | (cases e; exact .inr (.inr (.inl ⟨_, _, rfl⟩))) | (cases e; done)
          · left
            unfold oBuiltin at e
            split at e <;> dsimp only at e
            all_goals first | (cases e; done) | skip
            all_goals
              split at e <;> first | exact vN e | (cases e; done) | skip
            · unfold appendA at e
              simp only [nat!_eq] at e
              repeat' (split at e)
              all_goals first | exact newA_isVal e | (cases e; exact ⟨_, _, _, rfl⟩) | (cases e; done)
            · unfold oUnsafeString at e
              repeat' (split at e)
              all_goals first | (cases e; exact ⟨_, _, _, rfl⟩) | (cases e; done) | skip
              all_goals
                revert e
                generalize Nat.blt _ 1000000 = b
                intro e
                cases b
                · cases e
                · cases e; exact ⟨_, _, _, rfl⟩
          · cases e
        · cases e
    case h_28 =>
      cases ho
      dsimp only at e
      unfold oRecv at e
      split at e
      · split at e
        · rename_i hm _; cases e; exact .inr (.inr (.inr (.inl ⟨_, _, _, rfl, hm⟩)))
        · cases e
      · cases e
    case h_29 =>
      cases ho
      dsimp only at e
      unfold oSend at e
      split at e
      · split at e
        · rename_i hm _; cases e; exact .inr (.inr (.inr (.inr ⟨_, _, rfl, hm⟩)))
        · cases e
      · cases e
    all_goals cases ho
    all_goals dsimp only at e
    all_goals first
      | exact .inl (vN e)
      | exact .inr (.inl (sN e))
      | exact .inl (newA_isVal e)
      | (cases e; done)
      | skip
    · unfold allocA at e; split at e <;> first | exact .inl (newA_isVal e) | cases e
    · unfold boxA at e; split at e <;> first | exact .inl (newA_isVal e) | cases e
    · unfold oBuildSlice at e
      repeat' (split at e)
      all_goals first | exact .inl (newA_isVal e) | (cases e; done)
    · unfold oMakeSlice at e
      split at e
      · split at e
        · split at e
          · split at e <;> first | exact .inl (newA_isVal e) | (cases e; done)
          · cases e
        · cases e
      · cases e
    · unfold oMakeChan at e
      split at e
      · split at e
        · split at e <;> first | exact .inl (newA_isVal e) | (cases e; done)
        · cases e
      · cases e
  refine ⟨fun ok z c e => ?_, fun c v e => ?_⟩
  · rcases key _ e with ⟨_, _, _, q⟩ | ⟨_, _, q⟩ | ⟨_, _, q⟩ | ⟨_, _, _, _, q⟩ | ⟨_, _, q, _⟩ <;> first | exact q | cases q
  · rcases key _ e with ⟨_, _, _, q⟩ | ⟨_, _, q⟩ | ⟨_, _, q⟩ | ⟨_, _, _, q, _⟩ | ⟨_, _, _, q⟩ <;> first | exact q | cases q

/-- **what is told of an operation holds** -/
theorem op_rel {f : Tmps → Heap → Nat → Option AR} {ar : AR} (hn : ∀ v h', ar = .val v h' (Nat.succ n) → ρ n = none) (ho : opC P T o.op = .mk f) (e : f tm h n = some ar) : OpIs P ρ h w pm n (execOp a.eval o) ar := by
  unfold opC at ho
  split at ho
  case h_1 hop => cases ho; obtain ⟨v, hv, rfl⟩ := valA_inv e; exact s_move S R hop hv
  case h_2 hop => cases ho; obtain ⟨v, hv, rfl⟩ := valA_inv e; exact s_assign S R hop hv
  case h_3 hop => cases ho; obtain ⟨v, hv, rfl⟩ := valA_inv e; exact s_pick S R hop hv
  case h_4 hop =>
    cases ho
    obtain ⟨v, h', rfl⟩ : ∃ v h', ar = .val v h' (Nat.succ n) := by
      dsimp only [allocA] at e
      split at e
      · exact newA_isVal' e
      · cases e
    exact s_alloc K S hop (hn _ _ rfl) e
  case h_5 hop =>
    cases ho
    obtain ⟨v, h', rfl⟩ : ∃ v h', ar = .val v h' (Nat.succ n) := by
      dsimp only [boxA] at e
      split at e
      · exact newA_isVal' e
      · cases e
    exact s_box K S R hop (hn _ _ rfl) e
  case h_6 hop => cases ho; obtain ⟨v, hv, rfl⟩ := valA_inv e; exact s_build K S R hop hv
  case h_7 hop =>
    cases ho
    obtain ⟨v, h', rfl⟩ : ∃ v h', ar = .val v h' (Nat.succ n) := by
      dsimp only [oBuildSlice] at e
      split at e
      · split at e
        · split at e
          · split at e
            · exact newA_isVal' e
            · cases e
          · cases e
        · cases e
      · cases e
    exact s_buildSlice K S R hop (hn _ _ rfl) e
  case h_8 hop => cases ho; obtain ⟨v, hv, rfl⟩ := valA_inv e; exact s_load K S R hop hv
  case h_9 hop => cases ho; obtain ⟨v, hv, rfl⟩ := skipA_inv e; exact s_store K S R hop hv
  case h_10 hop => cases ho; obtain ⟨v, hv, rfl⟩ := valA_inv e; exact s_nilCheck S R hop hv
  case h_11 hop => cases ho; obtain ⟨v, hv, rfl⟩ := valA_inv e; exact s_bin K S R hop hv
  case h_12 hop => cases ho; obtain ⟨v, hv, rfl⟩ := valA_inv e; exact s_un S R hop hv
  case h_13 hop => cases ho; obtain ⟨v, hv, rfl⟩ := valA_inv e; exact s_conv K S R hop hv
  case h_14 hop => cases ho; obtain ⟨v, hv, rfl⟩ := valA_inv e; exact s_makeInterface K S R hop hv
  case h_15 hop => cases ho; obtain ⟨v, hv, rfl⟩ := valA_inv e; exact s_makeFunc K S R hop hv
  case h_16 hop => cases ho; obtain ⟨v, h', rfl⟩ := newA_isVal' e; exact s_makeMap S R hop (hn _ _ rfl) e
  case h_17 hop =>
    cases ho
    obtain ⟨v, h', rfl⟩ : ∃ v h', ar = .val v h' (Nat.succ n) := by
      dsimp only [oMakeSlice] at e
      split at e
      · split at e
        · split at e
          · split at e
            · exact newA_isVal' e
            · cases e
          · cases e
        · cases e
      · cases e
    exact s_makeSlice K S R hop (hn _ _ rfl) e
  case h_18 hop => cases ho; obtain ⟨v, hv, rfl⟩ := valA_inv e; exact s_slice K S R hop hv
  case h_19 hop => cases ho; obtain ⟨v, hv, rfl⟩ := valA_inv e; exact s_fieldAddr K S R hop hv
  case h_20 hop => cases ho; obtain ⟨v, hv, rfl⟩ := valA_inv e; exact s_field K S R hop hv
  case h_21 hop => cases ho; obtain ⟨v, hv, rfl⟩ := valA_inv e; exact s_indexAddr K S R hop hv
  case h_22 hop => cases ho; obtain ⟨v, hv, rfl⟩ := valA_inv e; exact s_index K S R hop hv
  case h_23 hop => cases ho; obtain ⟨v, hv, rfl⟩ := valA_inv e; exact s_lookup K S R hop hv
  case h_24 hop => cases ho; obtain ⟨v, hv, rfl⟩ := skipA_inv e; exact s_mapUpdate K S R hop hv
  case h_25 hop => cases ho; obtain ⟨v, hv, rfl⟩ := valA_inv e; exact s_typeAssert K S R hop hv
  case h_26 hop => cases ho; obtain ⟨v, hv, rfl⟩ := valA_inv e; exact s_extract K S R hop hv
  case h_27 c hop =>
    split at ho
    · rename_i rc name hc
      cases ho
      dsimp only at e
      split at e
      · rename_i as has
        obtain ⟨g, args, rfl⟩ : ∃ g args, ar = .enter g args := by
          unfold invokeA at e
          split at e
          · split at e
            · cases e; exact ⟨_, _, rfl⟩
            · split at e
              · split at e
                · split at e
                  · cases e; exact ⟨_, _, rfl⟩
                  · cases e
                · cases e
              · cases e
            · cases e
          · cases e
        exact s_invoke K S R hop hc has e
      · cases e
    · rename_i hne
      cases ho
      dsimp only [oCall] at e
      split at e
      · rename_i as has
        split at e
        · rename_i x hc
          obtain ⟨g, args, rfl⟩ : ∃ g args, ar = .enter g args := by
            unfold enterA at e
            split at e
            · cases e; exact ⟨_, _, rfl⟩
            · cases e
          exact s_callValue S R hop hc has e
        · rename_i b hc
          exact s_builtin K S R hn hop hc has e
        · cases e
      · cases e
  case h_28 hop => cases ho; exact s_recv K S R hop e
  case h_29 hop => cases ho; exact s_send K S R hop e
  case h_30 hop =>
    cases ho
    obtain ⟨v, h', rfl⟩ : ∃ v h', ar = .val v h' (Nat.succ n) := by
      dsimp only [oMakeChan] at e
      split at e
      · split at e
        · split at e
          · exact newA_isVal' e
          · cases e
        · cases e
      · cases e
    exact s_makeChan K S R hop (hn _ _ rfl) e
  case h_31 => cases ho; cases e
end

end Go.Det
namespace Go.Det

/-! ### the count of blocks does not fall -/
def ArMono (n : Nat) : AR → Prop
  | .val _ _ n' => n ≤ n'
  | .skip _ n' => n ≤ n'
  | _ => True
theorem valA_mono {h : Heap} {n : Nat} {x : Option Value} {ar : AR} (e : valA h n x = some ar) : ArMono n ar := by
  obtain ⟨v, _, rfl⟩ := valA_inv e; exact Nat.le_refl _
theorem skipA_mono {n : Nat} {x : Option Heap} {ar : AR} (e : skipA n x = some ar) : ArMono n ar := by
  obtain ⟨v, _, rfl⟩ := skipA_inv e; exact Nat.le_refl _
theorem newA_mono {h : Heap} {n : Nat} {o : AObj} {v : Value} {ar : AR} (e : newA h n o v = some ar) : ArMono n ar := by
  obtain ⟨v, _, rfl⟩ := newA_isVal' e; exact Nat.le_succ _
theorem append_mono {T : Tbl} {st xt : Nat} {h : Heap} {n : Nat} {s x : Value} {ar : AR} (e : appendA T st xt h n s x = some ar) : ArMono n ar := by
  unfold appendA at e
  simp only [nat!_eq] at e
  repeat' split at e
  all_goals first | exact newA_mono e | (cases e; exact Nat.le_refl _) | cases e
theorem ustring_mono {T : Tbl} {pt : Nat} {h : Heap} {n : Nat} {s x : Value} {ar : AR} (e : oUnsafeString T pt h n s x = some ar) : ArMono n ar := by
  unfold oUnsafeString at e
  repeat' (split at e)
  all_goals first | (cases e; exact Nat.le_refl _) | (cases e; done) | skip
  all_goals
    revert e
    generalize Nat.blt _ 1000000 = b
    intro e
    cases b
    · cases e
    · cases e; exact Nat.le_refl _
theorem builtin_mono {T : Tbl} {b : Builtin} {ts : List Nat} {h : Heap} {n : Nat} {args : List Value} {ar : AR} (e : oBuiltin T b ts h n args = some ar) : ArMono n ar := by
  unfold oBuiltin at e
  split at e <;> dsimp only at e
  all_goals first | (cases e; done) | (split at e <;> first | exact valA_mono e | exact append_mono e | exact ustring_mono e | cases e)
theorem opC_mono {P : Program} {T : Tbl} {op : Op} {f : Tmps → Heap → Nat → Option AR} {tm : Tmps} {h : Heap} {n : Nat} {ar : AR} (ho : opC P T op = .mk f) (e : f tm h n = some ar) : ArMono n ar := by
  unfold opC at ho
  split at ho
  case h_27 c =>
    split at ho
    · cases ho
      dsimp only at e
      split at e
      · unfold invokeA at e
        repeat' split at e
        all_goals first | (cases e; trivial) | cases e
      · cases e
    · cases ho
      dsimp only at e
      unfold oCall at e
      split at e
      · split at e
        · unfold enterA at e
          split at e <;> first | (cases e; trivial) | cases e
        · exact builtin_mono e
        · cases e
      · cases e
  case h_28 =>
    cases ho
    dsimp only at e
    unfold oRecv at e
    split at e
    · split at e <;> first | (cases e; trivial) | cases e
    · cases e
  case h_29 =>
    cases ho
    dsimp only at e
    unfold oSend at e
    split at e
    · split at e <;> first | (cases e; trivial) | cases e
    · cases e
  all_goals cases ho
  all_goals dsimp only at e
  all_goals first | exact valA_mono e | exact skipA_mono e | exact newA_mono e | (cases e; done) | skip
  · unfold allocA at e; split at e <;> first | exact newA_mono e | cases e
  · unfold boxA at e; split at e <;> first | exact newA_mono e | cases e
  · unfold oBuildSlice at e
    split at e
    · split at e
      · split at e
        · split at e <;> first | exact newA_mono e | cases e
        · cases e
      · cases e
    · cases e
  · unfold oMakeSlice at e
    split at e
    · split at e
      · split at e
        · split at e <;> first | exact newA_mono e | cases e
        · cases e
      · cases e
    · cases e
  · unfold oMakeChan at e
    split at e
    · split at e
      · split at e <;> first | exact newA_mono e | cases e
      · cases e
    · cases e

def MonoC (call : CallA) : Prop := ∀ {g : Nat} {args : List Value} {h : Heap} {n : Nat} {v : Value} {h' : Heap} {n' : Nat}, call g args h n = some (v, h', n') → n ≤ n'
def MonoR (run : RunA) : Prop := ∀ {fn : FnI} {todo : List Item} {tm tm' : Tmps} {h h' : Heap} {n n' : Nat}, run fn todo tm h n = some (tm', h', n') → n ≤ n'
def MonoS (sp : Sp) : Prop := ∀ {g : Nat} {args : List Value} {h : Heap} {n : Nat} {v : Value} {h' : Heap} {n' : Nat}, sp g args h n = some (some (v, h', n')) → n ≤ n'

theorem recv_mono {ok : Bool} {z : Value} {c : Nat} {h : Heap} {n : Nat} {v : Value} {h' : Heap} {n' : Nat} (e : recvA ok z c h n = some (v, h', n')) : n ≤ n' := by
  unfold recvA at e
  split at e
  · split at e <;> first | (cases e; exact Nat.le_refl _) | cases e
  · split at e <;> first | (cases e; exact Nat.le_refl _) | cases e
  · cases e
theorem send_mono {c : Nat} {u : Value} {h : Heap} {n : Nat} {v : Value} {h' : Heap} {n' : Nat} (e : sendA c u h n = some (v, h', n')) : n ≤ n' := by
  unfold sendA at e
  split at e
  · split at e
    · split at e <;> first | (cases e; exact Nat.le_refl _) | cases e
    · cases e
  · cases e
section
variable {P : Program} {T : Tbl} {call : CallA} (M : MonoC call) {nt : Nat} {tm tm' : Tmps} {h h' : Heap} {n n' : Nat}
include M
theorem upon_mono {ar : AR} (a : ArMono n ar) {v : Value} (e : uponA call h n (some ar) = some (v, h', n')) : n ≤ n' := by
  cases ar with
  | val => cases e; exact a
  | skip => cases e; exact a
  | enter => exact M e
  | recv => exact recv_mono e
  | send => exact send_mono e
theorem oc_mono {all : List Oper} {o : Oper} {f : CallA → Tmps → Heap → Nat → R3} (ho : oc P T nt all o = .mk f) (e : f call tm h n = some (tm', h', n')) : n ≤ n' := by
  unfold oc at ho
  split at ho
  · rename_i g hg
    cases hop : opC P T o.op with
    | mk f0 =>
    rw [hop] at ho
    have laid : laidA nt o.dst tm (uponA call h n (f0 tm h n)) = some (tm', h', n') → n ≤ n' := by
      intro hl
      unfold laidA at hl
      split at hl
      · rename_i v h1 n1 hu
        split at hl
        · cases hl
          cases har : f0 tm h n with
          | none => rw [har] at hu; cases hu
          | some ar => rw [har] at hu; exact upon_mono M (opC_mono hop har) hu
        · cases hl
      · cases hl
    unfold ocG at ho
    dsimp only at ho
    cases g with
    | none => cases ho; exact laid e
    | some g =>
      cases ho
      dsimp only at e
      split at e
      · exact laid e
      · unfold skippedA at e
        split at e
        · cases e; exact Nat.le_refl _
        · cases e
      · cases e
  · cases ho; cases e
theorem aOps_mono {all : List Oper} : ∀ (r : List Oper) {tm tm' : Tmps} {h h' : Heap} {n n' : Nat}, aOps P T call nt all r tm h n = some (tm', h', n') → n ≤ n'
  | [], _, _, _, _, _, _, e => by cases e; exact Nat.le_refl _
  | o :: r, _, _, _, _, _, _, e => by
    unfold aOps at e
    cases ho : oc P T nt all o with
    | mk f =>
    rw [ho] at e
    dsimp only at e
    split at e
    · rename_i h1; exact Nat.le_trans (oc_mono M ho h1) (aOps_mono r e)
    · cases e
theorem aOpsD_mono {all : List Oper} : ∀ (r : List Oper) {tm tm' : Tmps} {h h' : Heap} {n n' : Nat} {l l' : List Log}, aOpsD P T call nt all r tm h n l = some (tm', h', n', l') → n ≤ n'
  | [], _, _, _, _, _, _, _, _, e => by cases e; exact Nat.le_refl _
  | o :: r, _, _, _, _, _, _, _, _, e => by
    unfold aOpsD at e
    cases ho : oc P T nt all o with
    | mk f =>
    rw [ho] at e
    dsimp only at e
    split at e
    · rename_i h1; exact Nat.le_trans (oc_mono M ho h1) (aOpsD_mono r e)
    · cases e
theorem aRegion_mono {ops : List Oper} {draw : Bool} (e : aRegion P T call nt ops draw tm h n = some (tm', h', n')) : n ≤ n' := by
  unfold aRegion at e
  split at e
  · split at e
    · cases e
    · exact aOps_mono M _ e
    · split at e
      · rename_i h1
        split at e
        · cases e; exact aOpsD_mono M _ h1
        · cases e
      · cases e
  · exact aOps_mono M _ e
end
section
variable {P : Program} {T : Tbl} {sp : Sp} (MS : MonoS sp)
include MS
theorem callA_mono {run : RunA} (M : MonoR run) : MonoC (callA T sp run) := by
  intro g args h n v h' n' e
  unfold callA at e
  split at e
  · rename_i r hs
    subst e
    exact MS hs
  · split at e
    · cases e
    · unfold bodyA at e
      split at e
      · cases e
      · split at e
        · split at e
          unfold bodyR at e
          split at e
          · rename_i hrun
            split at e
            · cases e; exact M hrun
            · cases e
          · cases e
        · cases e
theorem aRun_mono (f : Nat) : MonoR (aRun P T sp f) := by
  induction f with
  | zero => intro fn todo tm tm' h h' n n' e; cases e
  | succ f M =>
    intro fn todo tm tm' h h' n n' e
    have e : stepA P T sp (aRun P T sp f) fn todo tm h n = some (tm', h', n') := e
    generalize aRun P T sp f = run at M e
    unfold stepA at e
    cases todo with
    | nil => cases e; exact Nat.le_refl _
    | cons it k =>
      cases it with
      | code c =>
        dsimp only at e
        cases c with
        | ret => cases e; exact Nat.le_refl _
        | cond c x y =>
          have e : condA run fn x y k tm h n (ev tm c) = some (tm', h', n') := e
          unfold condA at e
          split at e <;> first | exact M e | cases e
        | exit id =>
          have e : exitA run fn tm h n (exitTo id k) = some (tm', h', n') := e
          unfold exitA at e
          split at e <;> first | exact M e | cases e
        | region id ops draw =>
          have e : thenA run fn k (aRegion P T (callA T sp run) fn.nt ops.toList draw tm h n) = some (tm', h', n') := e
          unfold thenA at e
          split at e
          · rename_i hx; exact Nat.le_trans (aRegion_mono (callA_mono MS M) hx) (M e)
          · cases e
        | skip => exact M e
        | seq => exact M e
        | block => exact M e
        | loop => exact M e
        | scope => exact M e
        | _ => cases e
      | inBlock => exact M e
      | inScope => exact M e
      | inLoop => exact M e
      | _ => cases e
end
end Go.Det
namespace Go.Det
open Go.Conc

/-! ### goroutine 0 in company -/

/-- leave is for blocks that are there -/
structure PmOk (pm : Perm) (w : World) : Prop where
  rd : ∀ c, pm.rd c → c < w.heap.size
  wr : ∀ c, pm.wr c → c < w.heap.size
theorem PmOk.size {pm : Perm} {w w' : World} (h : PmOk pm w) (hs : w.heap.size ≤ w'.heap.size) : PmOk pm w' :=
  ⟨fun c hc => Nat.lt_of_lt_of_le (h.rd c hc) hs, fun c hc => Nat.lt_of_lt_of_le (h.wr c hc) hs⟩
/-- what the others may have done: nothing to the blocks that are read here -/
structure Rely (pm : Perm) (w w₁ : World) : Prop where
  size : w.heap.size ≤ w₁.heap.size
  same : ∀ b, pm.rd b → w₁.heap[b]? = w.heap[b]?
  world : w₁.tape = w.tape ∧ w₁.os = w.os ∧ w₁.output = w.output
theorem Rely.refl (pm : Perm) (w : World) : Rely pm w w := ⟨Nat.le_refl _, fun _ _ => rfl, rfl, rfl, rfl⟩
theorem Rely.trans {pm : Perm} {a b c : World} (h : Rely pm a b) (k : Rely pm b c) : Rely pm a c :=
  ⟨Nat.le_trans h.size k.size, fun x hx => (k.same x hx).trans (h.same x hx), k.world.1.trans h.world.1, k.world.2.1.trans h.world.2.1, k.world.2.2.trans h.world.2.2⟩

/-- what a step of goroutine 0's does -/
structure StepOk (pm : Perm) (w : World) (pm' : Perm) (w' : World) : Prop where
  size : w.heap.size ≤ w'.heap.size
  grow : pm' = pm.grow w.heap.size w'.heap.size
  world : w'.tape = w.tape ∧ w'.os = w.os ∧ w'.output = w.output
  old : ∀ b, b < w.heap.size → ¬ pm.wr b → w'.heap[b]? = w.heap[b]?
theorem StepOk.refl (pm : Perm) (w : World) : StepOk pm w pm w := ⟨Nat.le_refl _, (Perm.grow_self _ _).symm, ⟨rfl, rfl, rfl⟩, fun _ _ _ => rfl⟩
theorem Eff.stepOk {ρ ρ' : Ren} {h h' : Heap} {w w' : World} {pm pm' : Perm} {n n' : Nat} (e : Eff ρ h w pm n ρ' h' w' pm' n') : StepOk pm w pm' w' := ⟨e.size, e.grow, e.world, e.old⟩

/-- the channel that stands open, and what is still to come over it -/
abbrev Stage := Option (Nat × List Value)

/-- 'Go σ pm g w': from any machine in which goroutine 0 is g, and the rest is as the stage says, the run ends well. -/
structure Ctx (P : Program) where
  main : Bool
  Go : Stage → Perm → Goroutine → World → Prop
  step : ∀ {σ pm g w}, g.status = .running → (∀ w₁, Rely pm w w₁ → ∃ g' w' es pm', stepG P main g w₁ = .go g' w' es ∧ StepOk pm w₁ pm' w' ∧ (∀ e ∈ es, EvIn pm' e) ∧ Go σ pm' g' w') → Go σ pm g w

theorem Sim.rely {ρ : Ren} {h : Heap} {w w₁ : World} {pm : Perm} (S : Sim ρ h w pm) (r : Rely pm w w₁) : Sim ρ h w₁ pm :=
  ⟨S.glob, fun i m o a b => by
    have t := S.at' i m o a b
    by_cases hp : ∀ vs, o ≠ .pipe vs
    · obtain ⟨ro, h1, h2, h3, h4⟩ := t.get hp
      exact There.of (by rw [r.same _ h3]; exact h1) h2 h3 h4
    · cases o with
      | pipe vs => exact Nat.lt_of_lt_of_le (show m.b < w.heap.size from t) r.size
      | _ => exact absurd (fun vs h => by cases h) hp, S.inj⟩

section
variable {P : Program} {C : Ctx P} {σ : Stage} {pm : Perm} {w : World} {b : Frame} {a : Act} {k : List Item} {cs : List Frame}

/-- a move of control -/
theorem Ctx.ctl (C : Ctx P) {g g' : Goroutine} (hs : g.status = .running) (h : ∀ w, stepG P C.main g w = .go g' w #[]) (hK : ∀ w₁, Rely pm w w₁ → C.Go σ pm g' w₁) : C.Go σ pm g w :=
  C.step hs fun w₁ r => ⟨g', w₁, #[], pm, h w₁, StepOk.refl _ _, by simp, hK w₁ r⟩

theorem evIn_seen {fn : FuncId} {es : Array Event} (h : EvLe pm #[] es) : ∀ e ∈ seen P fn es, EvIn pm e := fun e he => (h e (mem_seen he)).elim (fun x => by simp at x) id
theorem run_of {α : Type} {s : Sem α} {r : Result α} {es : Array Event} (h : s.runT P w #[] = (r, es)) : s.run P w = r ∧ s.events P w #[] = es := by
  rw [Sem.runT_eq] at h
  exact ⟨congrArg Prod.fst h, congrArg Prod.snd h⟩

variable {ops : Array Oper} {i : Nat} {rest : List Nat} {o : Oper} {ρ : Ren} {h h' : Heap} {n n' : Nat}
/-- an operation that yields a value -/
theorem Ctx.val (C : Ctx P) (ho : ops[i]? = some o) (hw : Region.wanted o (yielded ops a.tmps) = true) (hk : b.kind ≠ .early) {v : Value} (hv : ∀ w₁, Rely pm w w₁ → OpVal P ρ h w₁ pm n (execOp a.eval o) v h' n')
    (hK : ∀ ρ' pm' u w₁ w', Rely pm w w₁ → VRel ρ' v u → Eff ρ h w₁ pm n ρ' h' w' pm' n' → C.Go σ pm' (G (b.at (a.put o.dst u) (.inRegion ops rest :: k)) cs) w') :
    C.Go σ pm (G (b.at a (.inRegion ops (i :: rest) :: k)) cs) w := by
  refine C.step rfl fun w₁ r => ?_
  obtain ⟨u, w', es, ρ', pm', h1, h2, h3, h4⟩ := hv w₁ r
  obtain ⟨r1, r2⟩ := run_of h1
  exact ⟨_, _, _, pm', stepG_value ho hw hk r1, h3.stepOk, by unfold listed; rw [r2]; exact evIn_seen h4, hK ρ' pm' u w₁ w' r h2 h3⟩
/-- .. that yields nothing -/
theorem Ctx.skip (C : Ctx P) (ho : ops[i]? = some o) (hw : Region.wanted o (yielded ops a.tmps) = true) (hk : b.kind ≠ .early) (hv : ∀ w₁, Rely pm w w₁ → OpSkip P ρ h w₁ pm n (execOp a.eval o) h' n')
    (hK : ∀ ρ' pm' w₁ w', Rely pm w w₁ → Eff ρ h w₁ pm n ρ' h' w' pm' n' → C.Go σ pm' (G (b.at (a.put o.dst undef) (.inRegion ops rest :: k)) cs) w') :
    C.Go σ pm (G (b.at a (.inRegion ops (i :: rest) :: k)) cs) w := by
  refine C.step rfl fun w₁ r => ?_
  obtain ⟨w', es, ρ', pm', h1, h3, h4⟩ := hv w₁ r
  obtain ⟨r1, r2⟩ := run_of h1
  exact ⟨_, _, _, pm', stepG_none ho hw hk r1, h3.stepOk, by unfold listed; rw [r2]; exact evIn_seen h4, hK ρ' pm' w₁ w' r h3⟩
/-- .. that is not wanted -/
theorem Ctx.unwanted (C : Ctx P) (ho : ops[i]? = some o) (hw : Region.wanted o (yielded ops a.tmps) = false) (hK : ∀ w₁, Rely pm w w₁ → C.Go σ pm (G (b.at (a.put o.dst undef) (.inRegion ops rest :: k)) cs) w₁) :
    C.Go σ pm (G (b.at a (.inRegion ops (i :: rest) :: k)) cs) w :=
  C.ctl rfl (fun w => stepG_unwanted ho hw) hK
/-- .. that calls a function of the program's -/
theorem Ctx.enter (C : Ctx P) (ho : ops[i]? = some o) (hw : Region.wanted o (yielded ops a.tmps) = true) (hk : b.kind ≠ .early) {f : Nat} {args : List Value} {fn : Func} {c : Code} (hf : P.funcs[f]? = some fn) (hnum : (fn.name == "runtime.NumGoroutine") = false) (hc : fn.body = some c)
    (hv : ∀ w₁, Rely pm w w₁ → OpCall P ρ w₁ pm (execOp a.eval o) f args)
    (hK : ∀ w₁ us, Rely pm w w₁ → VRels ρ args us → C.Go σ pm (G (Frame.enter P f ⟨us⟩ .normal) (b.at a (.inRegion ops (i :: rest) :: k) :: cs)) w₁) :
    C.Go σ pm (G (b.at a (.inRegion ops (i :: rest) :: k)) cs) w := by
  refine C.step rfl fun w₁ r => ?_
  obtain ⟨us, es, ⟨_, h1, _⟩, h2, h3⟩ := hv w₁ r
  have hcall : (callFunc f ⟨us⟩).runT P w₁ es = (.ok (.enter f ⟨us⟩) w₁, es) := by
    unfold callFunc
    rw [rT_bind (x := program) (a := P) rfl, hf]
    dsimp only
    rw [hnum, hc]
    rfl
  rw [hcall] at h1
  obtain ⟨r1, r2⟩ := run_of h1
  have hs := stepG_enter (P := P) (main := C.main) (b := b) (a := a) (k := k) (cs := cs) (w := w₁) (rest := rest) ho hw hk r1
  exact ⟨_, _, _, pm, hs, StepOk.refl _ _, by unfold listed; rw [r2]; exact evIn_seen h3, hK w₁ us r h2⟩

theorem stepG_leaveE {fn : Func} {todo : List Item} {c : Frame} {v : Value} {es : Array Event} (hn : b.kind = .normal) (hd : a.defers = []) (hf : P.funcs[b.fn]? = some fn)
    (main : Bool) (hr : (results fn a.tmps).runT P w #[] = (.ok v w, es)) :
    stepG P main (G { b.at a todo with mode := .returning } (c :: cs)) w = .go (G (c.finish v) cs) w (seen P b.fn es) := by
  obtain ⟨r1, r2⟩ := run_of hr
  simp [G, stepG, unwind, doReturn, Frame.at, hn, hd, hf, r1, r2, GStep.after]

variable {T : Tbl} {nt : Nat} {tm : Tmps}
/-- one result -/
def resOne (tmps : Array Value) : ResultVar → Sem Value
  | .tmp t => pure (tmps.getD t undef)
  | .cell a t => do loadVar t (← asAddr (tmps.getD a undef))
theorem res_one (K : TblOk P T) (S : Sim ρ h w pm) (R : TRel ρ nt tm a) {x : ResultVar} {v : Value} (e : resV T h tm x = some v) (es : Array Event) :
    ∃ u es', (resOne a.tmps x).runT P w es = (.ok u w, es') ∧ EvLe pm es es' ∧ VRel ρ v u := by
  have gd : ∀ {t : Nat} {v : Value}, tm.get t = some v → VRel ρ v (a.tmps.getD t undef) := fun {t v} ht => by
    obtain ⟨u, hu, hr⟩ := R.get t v ht
    have : a.tmps.getD t undef = u := by simp [hu]
    rw [this]; exact hr
  cases x with
  | tmp t => exact ⟨_, es, rfl, .refl _ _, gd e⟩
  | cell t ty =>
    unfold resV oLoad at e
    dsimp only at e
    split at e
    · rename_i A hA
      obtain ⟨i, off, m, rfl, hi, hu⟩ := ptr_spot (gd hA)
      obtain ⟨u, es', r1, r2, r3⟩ := loadT_rel K S hi e es
      refine ⟨u, es', ?_, r2, r3⟩
      unfold resOne
      dsimp only
      rw [hu, rT_bind (x := asAddr _) (a := ⟨m.b, m.s + off, none⟩) rfl]
      exact r1
    · cases e
theorem res_all (K : TblOk P T) (S : Sim ρ h w pm) (R : TRel ρ nt tm a) : ∀ (rs : List ResultVar) (vs : List Value) (es : Array Event), resVs T h tm rs = some vs →
    ∃ us es', (rs.mapM (resOne a.tmps)).runT P w es = (.ok us w, es') ∧ EvLe pm es es' ∧ VRels ρ vs us
  | [], vs, es, e => by
    simp only [resVs, Option.some.injEq] at e
    subst e
    exact ⟨[], es, by simp [List.mapM_nil, rT_pure], .refl _ _, .nil⟩
  | x :: rs, vs, es, e => by
    simp only [resVs] at e
    split at e
    · cases e
    · rename_i v hv
      split at e
      · cases e
      · rename_i s hs
        cases e
        obtain ⟨u, es1, r1, r2, r3⟩ := res_one K S R hv es
        obtain ⟨us, es2, q1, q2, q3⟩ := res_all K S R rs s es1 hs
        exact ⟨u :: us, es2, by rw [List.mapM_cons, rT_bind r1, rT_bind q1]; rfl, r2.trans q2, .cons r3 q3⟩
theorem res_rel (K : TblOk P T) (S : Sim ρ h w pm) (R : TRel ρ nt tm a) {fn : Func} {v : Value} (e : resultsA T fn.results.toList tm h = some v) :
    ∃ u es, (results fn a.tmps).runT P w #[] = (.ok u w, es) ∧ EvLe pm #[] es ∧ VRel ρ v u := by
  have key : ∀ vs, resVs T h tm fn.results.toList = some vs → ∃ us es, (results fn a.tmps).runT P w #[] = (.ok (if h : us.length = 1 then us[0] else .tuple ⟨us⟩) w, es) ∧ EvLe pm #[] es ∧ VRels ρ vs us := by
    intro vs hvs
    obtain ⟨us, es, r1, r2, r3⟩ := res_all K S R fn.results.toList vs #[] hvs
    refine ⟨us, es, ?_, r2, r3⟩
    have hm : (fn.results.mapM (resOne a.tmps)).runT P w #[] = (.ok ⟨us⟩ w, es) := by
      rw [Array.mapM_eq_mapM_toList, ← bind_pure_comp, rT_bind r1]
      rfl
    have : results fn a.tmps = (do let vs ← fn.results.mapM (resOne a.tmps); pure (if h : vs.size = 1 then vs[0] else .tuple vs)) := by
      unfold results
      congr 2
    rw [this, rT_bind hm]
    rfl
  unfold resultsA at e
  split at e
  · rename_i v' hvs
    cases e
    obtain ⟨us, es, r1, r2, r3⟩ := key _ hvs
    obtain ⟨u, us', rfl, q1, q2⟩ := r3.cons_inv
    obtain rfl := q2.nil_inv
    exact ⟨u, es, r1, r2, q1⟩
  · rename_i vs hne hvs
    cases e
    obtain ⟨us, es, r1, r2, r3⟩ := key _ hvs
    have hl : ¬ us.length = 1 := by
      rw [← r3.len]
      intro h1
      obtain ⟨x, hx⟩ := List.length_eq_one_iff.1 h1
      exact hne x hx
    rw [dif_neg hl] at r1
    exact ⟨_, es, r1, r2, .tuple r3.len r3.get⟩
  · cases e
end

end Go.Det
namespace Go.Det
open Go.Conc

/-- what has become of a state, in company -/
structure Runs (ρ : Ren) (h : Heap) (w : World) (pm : Perm) (n : Nat) (ρ' : Ren) (h' : Heap) (w' : World) (pm' : Perm) (n' : Nat) : Prop where
  le : ρ.le ρ'
  off : ∀ i, ¬ (n ≤ i ∧ i < n') → ρ' i = ρ i
  sim : Sim ρ' h' w' pm'
  size : w.heap.size ≤ w'.heap.size
  rd : ∀ b, pm.rd b → pm'.rd b
  rd' : ∀ b, pm'.rd b → pm.rd b ∨ (w.heap.size ≤ b ∧ b < w'.heap.size)
  wr : ∀ b, pm'.wr b → pm.wr b ∨ (w.heap.size ≤ b ∧ b < w'.heap.size)
  world : w'.tape = w.tape ∧ w'.os = w.os ∧ w'.output = w.output
  old : ∀ b, b < w.heap.size → pm.rd b → ¬ pm.wr b → w'.heap[b]? = w.heap[b]?
  frame : ∀ b, b < w.heap.size → pm.rd b → (∀ i m o, ρ i = some m → h.get i = some o → o.ro = false → m.b ≠ b) → w'.heap[b]? = w.heap[b]?
  imgs : ∀ i m, n ≤ i → i < n' → ρ' i = some m → w.heap.size ≤ m.b ∨ ∃ j m0 o, ρ j = some m0 ∧ h.get j = some o ∧ o.ro = false ∧ m0.b = m.b
  hold : ∀ i, h.get i = none → ¬ (n ≤ i ∧ i < n') → h'.get i = none
  nle : n ≤ n'
  ro : ∀ i m o o', ¬ (n ≤ i ∧ i < n') → ρ i = some m → h.get i = some o → o.ro = true → h'.get i = some o' → o'.ro = true
  kwr : ∀ b, b < w.heap.size → pm.wr b → (∀ i m o, ρ i = some m → h.get i = some o → m.b ≠ b) → pm'.wr b

theorem Runs.rely {ρ : Ren} {h : Heap} {w w₁ : World} {pm : Perm} (S : Sim ρ h w pm) (r : Rely pm w w₁) (n : Nat) : Runs ρ h w pm n ρ h w₁ pm n :=
  ⟨fun _ _ e => e, fun _ _ => rfl, S.rely r, r.size, fun _ h => h, fun b => .inl, fun b => .inl, r.world, fun b _ hp _ => r.same b hp, fun b _ hp _ => r.same b hp, fun i m a b => by omega, fun _ e _ => e, Nat.le_refl _, fun _ _ _ _ _ _ a b c => by rw [a] at c; cases c; exact b, fun _ _ a _ => a⟩

theorem Eff.runs {ρ ρ' : Ren} {h h' : Heap} {w w' : World} {pm pm' : Perm} {n n' : Nat} (e : Eff ρ h w pm n ρ' h' w' pm' n') : Runs ρ h w pm n ρ' h' w' pm' n' :=
  ⟨e.le, e.off, e.sim, e.size, fun b hb => by rw [e.grow]; exact .inl hb, fun b hb => by rw [e.grow] at hb; exact hb, fun b hb => by rw [e.grow] at hb; exact hb, e.world, fun b hb _ hw => e.old b hb hw, fun b hb _ hf => e.frame b hb hf, e.imgs, e.hold, e.nle, e.ro, fun b _ hw _ => by rw [e.grow]; exact .inl hw⟩

theorem Runs.trans {ρ ρ1 ρ2 : Ren} {h h1 h2 : Heap} {w w1 w2 : World} {pm pm1 pm2 : Perm} {n n1 n2 : Nat}
    (A : Runs ρ h w pm n ρ1 h1 w1 pm1 n1) (B : Runs ρ1 h1 w1 pm1 n1 ρ2 h2 w2 pm2 n2) : Runs ρ h w pm n ρ2 h2 w2 pm2 n2 := by
  have a1 := A.nle
  have b1 := B.nle
  have as := A.size
  have bs := B.size
  have mid : ∀ j m0 o, ρ1 j = some m0 → h1.get j = some o → o.ro = false → w.heap.size ≤ m0.b ∨ ∃ i m o, ρ i = some m ∧ h.get i = some o ∧ o.ro = false ∧ m.b = m0.b := by
    intro j m0 o e1 e2 er
    by_cases hj : n ≤ j ∧ j < n1
    · exact A.imgs j m0 hj.1 hj.2 e1
    · have e3 := A.off j hj
      cases e4 : h.get j with
      | none => rw [A.hold j e4 hj] at e2; cases e2
      | some o' =>
        have e5 : ρ j = some m0 := by rw [← e3]; exact e1
        refine .inr ⟨j, m0, o', e5, e4, ?_, rfl⟩
        cases hr : o'.ro with
        | false => rfl
        | true => rw [A.ro j m0 o' o hj e5 e4 hr e2] at er; cases er
  refine ⟨fun i m e => B.le i m (A.le i m e), fun i hi => ?_, B.sim, by omega, fun b hb => B.rd b (A.rd b hb), fun b hb => ?_, fun b hb => ?_, ?_, fun b hb hr hp => ?_, fun b hb hr hf => ?_, fun i m hi hi' e => ?_, fun i e hi => ?_, by omega, fun i m o o' ni x y z u => ?_, fun b hb hw hf => B.kwr b (by omega) (A.kwr b hb hw hf) fun j m0 o e1 e2 e3 => ?_⟩
  · rw [B.off i (by omega), A.off i (by omega)]
  · rcases B.rd' b hb with x | x
    · rcases A.rd' b x with y | y
      · exact .inl y
      · exact .inr ⟨y.1, by omega⟩
    · exact .inr ⟨by omega, x.2⟩
  · rcases B.wr b hb with x | x
    · rcases A.wr b x with y | y
      · exact .inl y
      · exact .inr ⟨y.1, by omega⟩
    · exact .inr ⟨by omega, x.2⟩
  · obtain ⟨x1, x2, x3⟩ := A.world
    obtain ⟨y1, y2, y3⟩ := B.world
    exact ⟨y1.trans x1, y2.trans x2, y3.trans x3⟩
  · rw [B.old b (by omega) (A.rd b hr) (fun x => (A.wr b x).elim hp fun y => by omega), A.old b hb hr hp]
  · rw [B.frame b (by omega) (A.rd b hr) (fun j m0 o e1 e2 er e3 => ?_), A.frame b hb hr hf]
    rcases mid j m0 o e1 e2 er with x | ⟨i, m, o', x1, x2, x3, x4⟩
    · omega
    · exact hf i m o' x1 x2 x3 (x4.trans e3)
  · by_cases hi1 : i < n1
    · have e' : ρ1 i = some m := by rw [← B.off i (by omega)]; exact e
      exact A.imgs i m hi hi1 e'
    · rcases B.imgs i m (by omega) hi' e with x | ⟨j, m0, o, x1, x2, x3, x4⟩
      · exact .inl (by omega)
      · rcases mid j m0 o x1 x2 x3 with y | ⟨i', m', o', y1, y2, y3, y4⟩
        · exact .inl (by omega)
        · exact .inr ⟨i', m', o', y1, y2, y3, y4.trans x4⟩
  · exact B.hold i (A.hold i e (by omega)) (by omega)
  · cases e4 : h1.get i with
    | none => rw [B.hold i e4 (by omega)] at u; cases u
    | some o1 => exact B.ro i m o1 o' (by omega) (A.le i m x) e4 (A.ro i m o o1 (by omega) x y z e4) u
  · by_cases hj : n ≤ j ∧ j < n1
    · rcases A.imgs j m0 hj.1 hj.2 e1 with x | ⟨i, m, o', x1, x2, x3, x4⟩
      · omega
      · exact hf i m o' x1 x2 (x4.trans e3)
    · cases e4 : h.get j with
      | none => rw [A.hold j e4 hj] at e2; cases e2
      | some o' => exact hf j m0 o' (by rw [← A.off j hj]; exact e1) e4 e3

/-- the numbers from n on are not in use -/
def Fresh (ρ : Ren) (n N : Nat) : Prop := ∀ i, n ≤ i → i < N → ρ i = none
theorem Runs.fresh {ρ ρ' : Ren} {h h' : Heap} {w w' : World} {pm pm' : Perm} {n n' : Nat} (r : Runs ρ h w pm n ρ' h' w' pm' n') {N : Nat} (f : Fresh ρ n N) : Fresh ρ' n' N := fun i hi hN => by
  have := r.nle
  rw [r.off i (by omega)]
  exact f i (by omega) hN
end Go.Det
namespace Go.Det
open Go.Conc

/-- the open channel, as the abstract heap has it -/
def StageOk (ρ : Ren) (h : Heap) : Stage → Prop
  | none => ∀ c m vs, ρ c = some m → h.get c ≠ some (.pipe vs)
  | some (b, us) => ∃ c m, ρ c = some m ∧ m.b = b ∧ h.get c = some (.pipe us) ∧ ∀ c' m' vs, ρ c' = some m' → h.get c' = some (.pipe vs) → c' = c

theorem StageOk.eff {ρ ρ' : Ren} {h h' : Heap} {w w' : World} {pm pm' : Perm} {n n' : Nat} (e : Eff ρ h w pm n ρ' h' w' pm' n') {σ : Stage} (s : StageOk ρ h σ) : StageOk ρ' h' σ := by
  match σ, s with
  | none, s => exact fun c m vs hc hg => let ⟨p, q⟩ := e.np c m vs hc hg; s c m vs p q
  | some (b, us), ⟨c, m, h1, h2, h3, h4⟩ => exact ⟨c, m, e.le _ _ h1, h2, e.kp _ _ _ h1 h3, fun c' m' vs hc hg => let ⟨p, q⟩ := e.np c' m' vs hc hg; h4 c' m' vs p q⟩

section
variable {P : Program} {T : Tbl} {ρ : Ren} {nt : Nat} {tm : Tmps} {a : Act}

/-- a guard, as far as it is told -/
theorem guard_rel (R : TRel ρ nt tm a) {ops : Array Oper} {o : Oper} {b : Bool} {g : Option (Nat × Bool)} (eg : guardT ops.toList o = some g) (e : wantA g tm = some b) : Region.wanted o (yielded ops a.tmps) = b := by
  unfold Region.wanted
  unfold guardT at eg
  cases hg : o.guard with
  | none =>
    rw [hg] at eg
    cases eg
    simp only [wantA, Option.some.injEq] at e
    rw [← e]
  | some p =>
    obtain ⟨j, w⟩ := p
    rw [hg] at eg
    dsimp only at eg ⊢
    rw [getL_eq] at eg
    cases hj : ops[j]? with
    | none =>
      have : ops.toList[j]? = none := by simpa using hj
      rw [this] at eg
      cases eg
    | some oj =>
      have : ops.toList[j]? = some oj := by simpa using hj
      rw [this] at eg
      dsimp only at eg
      cases hd : oj.dst with
      | none => rw [hd] at eg; cases eg
      | some d =>
        rw [hd] at eg
        cases eg
        unfold wantA at e
        dsimp only at e
        split at e
        · rename_i v hv
          obtain ⟨u, hu, hr⟩ := R.get d v hv
          have hy : yielded ops a.tmps j = (match (generalizing := false) u with | .bool x => some x | _ => none) := by
            unfold yielded
            rw [hj]
            simp only [Option.bind_some, hd, hu]
            cases u <;> rfl
          rw [hy]
          cases hr <;> dsimp only at e ⊢ <;> first | (cases e; rfl; done) | skip
          rename_i x
          cases x <;> dsimp only at e <;> (have e := Option.some.inj e; rw [← e]; cases w <;> rfl)
        · cases e
end

end Go.Det
namespace Go.Det
open Go.Conc

/-- where goroutine 0 stands: ahead of an operation of a region -/
structure At (P : Program) (C : Ctx P) (σ : Stage) (ρ : Ren) (h : Heap) (w : World) (pm : Perm) (n N : Nat) : Prop where
  sim : Sim ρ h w pm
  fresh : Fresh ρ n N
  low : ∀ i, n ≤ i → h.get i = none
  pmo : PmOk pm w
  stage : StageOk ρ h σ

/-- what is asked behind an operation's value -/
def Behind (P : Program) (C : Ctx P) (ρ : Ren) (h : Heap) (w : World) (pm : Perm) (n : Nat) (v : Value) (h' : Heap) (n' : Nat) (K : Stage → Perm → World → Value → Prop) : Prop :=
  ∀ σ' ρ' pm' w' u, Runs ρ h w pm n ρ' h' w' pm' n' → StageOk ρ' h' σ' → VRel ρ' v u → K σ' pm' w' u

/-- what is told of calls holds -/
def CallOk {P : Program} (C : Ctx P) (call : CallA) : Prop :=
  ∀ {g : Nat} {args : List Value} {h : Heap} {n : Nat} {v : Value} {h' : Heap} {n' : Nat}, call g args h n = some (v, h', n') →
  ∀ {σ : Stage} {ρ : Ren} {pm : Perm} {w : World} {b : Frame} {a : Act} {k : List Item} {cs : List Frame} {ops : Array Oper} {i N : Nat} {rest : List Nat} {o : Oper}, At P C σ ρ h w pm n N → n' ≤ N →
    ops[i]? = some o → Region.wanted o (yielded ops a.tmps) = true → b.kind ≠ .early → (∀ w₁, Rely pm w w₁ → OpCall P ρ w₁ pm (execOp a.eval o) g args) →
    Behind P C ρ h w pm n v h' n' (fun σ' pm' w' u => C.Go σ' pm' (G (b.at (a.put o.dst u) (.inRegion ops rest :: k)) cs) w') →
    C.Go σ pm (G (b.at a (.inRegion ops (i :: rest) :: k)) cs) w
/-- .. of receives and sends -/
structure RecvOk {P : Program} (T : Tbl) (C : Ctx P) : Prop where
  main : C.main = T.main
  recv : C.main = true → ∀ {ok : Bool} {z : Value} {c : Nat} {h : Heap} {n : Nat} {v : Value} {h' : Heap} {n' : Nat}, recvA ok z c h n = some (v, h', n') →
    ∀ {σ : Stage} {ρ : Ren} {pm : Perm} {w : World} {b : Frame} {a : Act} {k : List Item} {cs : List Frame} {ops : Array Oper} {i N : Nat} {rest : List Nat} {o : Oper}, At P C σ ρ h w pm n N → n' ≤ N →
    ops[i]? = some o → Region.wanted o (yielded ops a.tmps) = true → b.kind ≠ .early → (∀ w₁, Rely pm w w₁ → OpRecv P ρ w₁ (execOp a.eval o) ok z c) →
    Behind P C ρ h w pm n v h' n' (fun σ' pm' w' u => C.Go σ' pm' (G (b.at (a.put o.dst u) (.inRegion ops rest :: k)) cs) w') →
    C.Go σ pm (G (b.at a (.inRegion ops (i :: rest) :: k)) cs) w
  send : C.main = false → ∀ {c : Nat} {u : Value} {h : Heap} {n : Nat} {v : Value} {h' : Heap} {n' : Nat}, sendA c u h n = some (v, h', n') → afree u = true →
    ∀ {σ : Stage} {ρ : Ren} {pm : Perm} {w : World} {b : Frame} {a : Act} {k : List Item} {cs : List Frame} {ops : Array Oper} {i N : Nat} {rest : List Nat} {o : Oper}, At P C σ ρ h w pm n N → n' ≤ N →
    ops[i]? = some o → Region.wanted o (yielded ops a.tmps) = true → b.kind ≠ .early → (∀ w₁, Rely pm w w₁ → OpSend P ρ w₁ (execOp a.eval o) c u) →
    Behind P C ρ h w pm n v h' n' (fun σ' pm' w' u => C.Go σ' pm' (G (b.at (a.put o.dst u) (.inRegion ops rest :: k)) cs) w') →
    C.Go σ pm (G (b.at a (.inRegion ops (i :: rest) :: k)) cs) w

section
variable {P : Program} {T : Tbl} (K : TblOk P T) {C : Ctx P} {call : CallA} (CO : CallOk C call) (RO : RecvOk T C)
include K CO RO

/-- one operation of a region, wanted: up to its value -/
theorem one_run {nt : Nat} {ops : Array Oper} {i : Nat} {rest : List Nat} {o : Oper} {f0 : Tmps → Heap → Nat → Option AR} {tm : Tmps} {h h' : Heap} {n n' : Nat} {v : Value} (ho : ops[i]? = some o) (hop : opC P T o.op = .mk f0) (hu : uponA call h n (f0 tm h n) = some (v, h', n'))
    {σ : Stage} {ρ : Ren} {pm : Perm} {w : World} {b : Frame} {a : Act} {k : List Item} {cs : List Frame} {N : Nat} (A : At P C σ ρ h w pm n N) (hN : n' ≤ N) (R : TRel ρ nt tm a) (hk : b.kind ≠ .early) (hw : Region.wanted o (yielded ops a.tmps) = true)
    (fin : Behind P C ρ h w pm n v h' n' (fun σ' pm' w' u => C.Go σ' pm' (G (b.at (a.put o.dst u) (.inRegion ops rest :: k)) cs) w')) :
    C.Go σ pm (G (b.at a (.inRegion ops (i :: rest) :: k)) cs) w := by
  cases har : f0 tm h n with
  | none => rw [har] at hu; cases hu
  | some ar =>
    rw [har] at hu
    have is : ∀ w₁, Rely pm w w₁ → OpIs P ρ h w₁ pm n (execOp a.eval o) ar := fun w₁ r => op_rel K (A.sim.rely r) R (fun v h1 hv => by subst hv; cases hu; exact A.fresh n (Nat.le_refl n) hN) hop har
    cases ar with
    | val v0 h0 n0 =>
      cases hu
      exact C.val ho hw hk is fun ρ' pm' u w₁ w' r hr ef => fin σ ρ' pm' w' u ((Runs.rely A.sim r n).trans ef.runs) (A.stage.eff ef) hr
    | skip h0 n0 =>
      cases hu
      exact C.skip ho hw hk is fun ρ' pm' w₁ w' r ef => fin σ ρ' pm' w' undef ((Runs.rely A.sim r n).trans ef.runs) (A.stage.eff ef) (.tuple rfl VRels.nil.get)
    | enter g args => exact CO hu A hN ho hw hk is fin
    | recv ok z c => exact RO.recv (RO.main.trans ((op_main K A.sim R hop).1 _ _ _ har)) hu A hN ho hw hk is fin
    | send c u => exact RO.send (RO.main.trans ((op_main K A.sim R hop).2 _ _ har)) hu (is w (Rely.refl _ _)).2 A hN ho hw hk (fun w₁ r => (is w₁ r).1) fin

/-- one operation of a region -/
theorem one_op {nt : Nat} {ops : Array Oper} {i : Nat} {rest : List Nat} {o : Oper} {f : CallA → Tmps → Heap → Nat → R3} {tm tm' : Tmps} {h h' : Heap} {n n' : Nat} (ho : ops[i]? = some o) (hoc : oc P T nt ops.toList o = .mk f) (e : f call tm h n = some (tm', h', n'))
    {σ : Stage} {ρ : Ren} {pm : Perm} {w : World} {b : Frame} {a : Act} {k : List Item} {cs : List Frame} {N : Nat} (A : At P C σ ρ h w pm n N) (hN : n' ≤ N) (R : TRel ρ nt tm a) (hk : b.kind ≠ .early)
    (hK : ∀ σ' ρ' pm' w' a', Runs ρ h w pm n ρ' h' w' pm' n' → StageOk ρ' h' σ' → TRel ρ' nt tm' a' → a'.defers = a.defers → C.Go σ' pm' (G (b.at a' (.inRegion ops rest :: k)) cs) w') :
    C.Go σ pm (G (b.at a (.inRegion ops (i :: rest) :: k)) cs) w := by
  have pd : ∀ u, (a.put o.dst u).defers = a.defers := fun u => by cases o.dst <;> rfl
  -- the operation itself
  have run : ∀ {f0 : Tmps → Heap → Nat → Option AR} {v : Value}, opC P T o.op = .mk f0 → Region.wanted o (yielded ops a.tmps) = true → uponA call h n (f0 tm h n) = some (v, h', n') → putA nt o.dst tm v = some tm' →
      C.Go σ pm (G (b.at a (.inRegion ops (i :: rest) :: k)) cs) w := by
    intro f0 v hop hw hu hp
    exact one_run K CO RO ho hop hu A hN R hk hw fun σ' ρ' pm' w' u r s hr => hK σ' ρ' pm' w' _ r s ((R.mono r.le).put hr hp) (pd u)
  unfold oc at hoc
  split at hoc
  · rename_i g hg
    cases hop : opC P T o.op with
    | mk f0 =>
      rw [hop] at hoc
      unfold ocG at hoc
      have laid : laidA nt o.dst tm (uponA call h n (f0 tm h n)) = some (tm', h', n') → ∃ v, uponA call h n (f0 tm h n) = some (v, h', n') ∧ putA nt o.dst tm v = some tm' := by
        intro hl
        unfold laidA at hl
        split at hl
        · rename_i v h1 n1 hu
          split at hl
          · rename_i tm1 hp
            cases hl
            exact ⟨v, hu, hp⟩
          · cases hl
        · cases hl
      dsimp only at hoc
      cases g with
      | none =>
        cases hoc
        obtain ⟨v, hu, hp⟩ := laid e
        exact run hop (guard_rel R hg rfl) hu hp
      | some g =>
        cases hoc
        dsimp only at e
        split at e
        · rename_i hw
          obtain ⟨v, hu, hp⟩ := laid e
          exact run hop (guard_rel R hg hw) hu hp
        · rename_i hw
          unfold skippedA at e
          split at e
          · rename_i tm1 hp
            cases e
            exact C.unwanted ho (guard_rel R hg hw) fun w₁ r => hK σ ρ pm w₁ _ (Runs.rely A.sim r n) A.stage (R.put (.tuple rfl VRels.nil.get) hp) (pd _)
          · cases e
        · cases e
  · cases hoc
    cases e
end

end Go.Det
namespace Go.Det
open Go.Conc

section
variable {P : Program} {T : Tbl} (K : TblOk P T) {C : Ctx P} {call : CallA} (MC : MonoC call) (CO : CallOk C call) (RO : RecvOk T C)

theorem Runs.at {ρ ρ' : Ren} {h h' : Heap} {w w' : World} {pm pm' : Perm} {n n' : Nat} {σ σ' : Stage} {N : Nat} (A : At P C σ ρ h w pm n N) (r : Runs ρ h w pm n ρ' h' w' pm' n') (s : StageOk ρ' h' σ') : At P C σ' ρ' h' w' pm' n' N :=
  ⟨r.sim, r.fresh A.fresh, fun i hi => by have := r.nle; exact r.hold i (A.low i (by omega)) (by omega), ⟨fun c hc => (r.rd' c hc).elim (fun x => Nat.lt_of_lt_of_le (A.pmo.rd c x) r.size) (·.2), fun c hc => (r.wr c hc).elim (fun x => Nat.lt_of_lt_of_le (A.pmo.wr c x) r.size) (·.2)⟩, s⟩
theorem At.rely {ρ : Ren} {h : Heap} {w w₁ : World} {pm : Perm} {n N : Nat} {σ : Stage} (A : At P C σ ρ h w pm n N) (r : Rely pm w w₁) : At P C σ ρ h w₁ pm n N := ⟨A.sim.rely r, A.fresh, A.low, A.pmo.size r.size, A.stage⟩

include K MC CO RO
/-- the operations of a region, in the order of the text -/
theorem ops_seq {nt : Nat} {ops : Array Oper} {b : Frame} {k : List Item} {cs : List Frame} (hk : b.kind ≠ .early) : ∀ (r : List Oper) (i : Nat) {tm tm' : Tmps} {h h' : Heap} {n n' : Nat}, r = ops.toList.drop i → aOps P T call nt ops.toList r tm h n = some (tm', h', n') →
    ∀ {σ : Stage} {ρ : Ren} {pm : Perm} {w : World} {a : Act} {N : Nat}, At P C σ ρ h w pm n N → n' ≤ N → TRel ρ nt tm a →
    (∀ σ' ρ' pm' w' a', Runs ρ h w pm n ρ' h' w' pm' n' → StageOk ρ' h' σ' → TRel ρ' nt tm' a' → a'.defers = a.defers → C.Go σ' pm' (G (b.at a' (.inRegion ops [] :: k)) cs) w') →
    C.Go σ pm (G (b.at a (.inRegion ops (List.range' i r.length) :: k)) cs) w
  | [], i, tm, tm', h, h', n, n', hr, e, σ, ρ, pm, w, a, N, A, hN, R, hK => by
    simp only [aOps, Option.some.injEq, Prod.mk.injEq] at e
    obtain ⟨rfl, rfl, rfl⟩ := e
    exact hK σ ρ pm w a (Runs.rely A.sim (Rely.refl _ _) _) A.stage R rfl
  | o :: r, i, tm, tm', h, h', n, n', hr, e, σ, ρ, pm, w, a, N, A, hN, R, hK => by
    have hi : i < ops.toList.length := by
      rcases Nat.lt_or_ge i ops.toList.length with x | x
      · exact x
      · rw [List.drop_eq_nil_of_le x] at hr; cases hr
    rw [List.drop_eq_getElem_cons hi] at hr
    obtain ⟨ho, hr'⟩ := List.cons.inj hr
    have ho' : ops[i]? = some o := by rw [← Array.getElem?_toList, List.getElem?_eq_getElem hi, ho]
    unfold aOps at e
    cases hoc : oc P T nt ops.toList o with
    | mk f =>
    rw [hoc] at e
    dsimp only at e
    split at e
    · rename_i tm1 h1 n1 hf
      rw [List.length_cons, List.range'_succ]
      refine one_op K CO RO ho' hoc hf A (Nat.le_trans (aOps_mono MC r e) hN) R hk fun σ1 ρ1 pm1 w1 a1 r1 s1 R1 d1 => ?_
      exact ops_seq hk r (i + 1) hr' e (r1.at A s1) hN R1 fun σ2 ρ2 pm2 w2 a2 r2 s2 R2 d2 => hK σ2 ρ2 pm2 w2 a2 (r1.trans r2) s2 R2 (d2.trans d1)
    · cases e

theorem region_seq {nt id : Nat} {ops : Array Oper} {b : Frame} {k : List Item} {cs : List Frame} (hk : b.kind ≠ .early) {tm tm' : Tmps} {h h' : Heap} {n n' : Nat} (e : aOps P T call nt ops.toList ops.toList tm h n = some (tm', h', n'))
    {σ : Stage} {ρ : Ren} {pm : Perm} {w : World} {a : Act} {N : Nat} (A : At P C σ ρ h w pm n N) (hN : n' ≤ N) (R : TRel ρ nt tm a)
    (hK : ∀ σ' ρ' pm' w' a', Runs ρ h w pm n ρ' h' w' pm' n' → StageOk ρ' h' σ' → TRel ρ' nt tm' a' → a'.defers = a.defers → C.Go σ' pm' (G (b.at a' k) cs) w') :
    C.Go σ pm (G (b.at a (.code (.region id ops false) :: k)) cs) w := by
  refine C.ctl rfl (fun w => stepG_region) fun w₁ r => ?_
  have := ops_seq K MC CO RO (b := b) (k := k) (cs := cs) hk ops.toList 0 (by simp) e (A.rely r) hN R fun σ' ρ' pm' w' a' r' s' R' d' => C.ctl rfl (fun w => stepG_region_end) fun w₂ q =>
    hK σ' ρ' pm' w₂ a' (((Runs.rely A.sim r n).trans r').trans (Runs.rely r'.sim q n')) s' R' d'
  rw [List.range_eq_range']
  simpa using this
end

end Go.Det
namespace Go.Det
open Go.Conc

/-! ### what is kept of a frame's temporaries -/
def lastT : Tmps → Nat → Option Value
  | .nil, _ => none
  | .cons k v r, t => match lastT r t with
    | some x => some x
    | none => if k = t then some v else none
theorem keepT_last (m : Nat) : ∀ (r acc : Tmps) (t : Nat) (v : Value), lastT (keepT m r acc) t = some v → lastT acc t = some v ∨ (lastT acc t = none ∧ bitAt m t = true ∧ r.get t = some v)
  | .nil, acc, t, v, h => .inl h
  | .cons k x r, acc, t, v, h => by
    unfold keepT at h
    rw [Tmps.get_cons]
    split at h
    · rename_i hb
      rcases keepT_last m r _ t v h with h1 | ⟨h1, hbt, h2⟩
      · unfold lastT at h1
        split at h1
        · rename_i y hy; cases h1; exact .inl hy
        · rename_i hy
          split at h1
          · rename_i hk; exact .inr ⟨hy, by rw [← hk]; exact hb, by rw [if_pos hk]; exact h1⟩
          · cases h1
      · unfold lastT at h1
        split at h1
        · cases h1
        · rename_i hy
          split at h1
          · cases h1
          · rename_i hk; exact .inr ⟨hy, hbt, by rw [if_neg hk]; exact h2⟩
    · rename_i hb
      rcases keepT_last m r _ t v h with h1 | ⟨h1, hbt, h2⟩
      · exact .inl h1
      · exact .inr ⟨h1, hbt, by rw [if_neg (by rintro rfl; rw [hbt] at hb; cases hb)]; exact h2⟩
theorem dedup_get : ∀ (l acc : Tmps) (t : Nat) (v : Value), (dedup l acc).get t = some v → lastT l t = some v ∨ (lastT l t = none ∧ acc.get t = some v)
  | .nil, acc, t, v, h => .inr ⟨rfl, h⟩
  | .cons k x r, acc, t, v, h => by
    unfold dedup at h
    unfold lastT
    rcases dedup_get r _ t v h with h1 | ⟨h1, h2⟩
    · rw [h1]; exact .inl rfl
    · rw [h1]
      rw [Tmps.get_cons] at h2
      split at h2
      · rename_i hk; cases h2; exact .inl (by rw [if_pos hk])
      · rename_i hk; exact .inr ⟨by rw [if_neg hk], (Tmps.get_del _ _ _ _ h2).1⟩
theorem trimT_get {m : Nat} {tm : Tmps} {t : Nat} {v : Value} (h : (trimT m tm).get t = some v) : tm.get t = some v := by
  unfold trimT at h
  rcases dedup_get _ _ t v h with h1 | ⟨_, h2⟩
  · rcases keepT_last m tm .nil t v h1 with h3 | ⟨_, _, h3⟩
    · cases h3
    · exact h3
  · cases h2
theorem TRel.trim {ρ : Ren} {nt m : Nat} {tm : Tmps} {a : Act} (R : TRel ρ nt tm a) : TRel ρ nt (trimT m tm) a := ⟨R.size, fun t v h => R.get t v (trimT_get h)⟩
end Go.Det
namespace Go.Det
open Go.Conc

/-- what is told of a frame's run holds -/
def RunOk {P : Program} (C : Ctx P) (run : RunA) : Prop :=
  ∀ {fn : FnI} {todo : List Item} {tm tm' : Tmps} {h h' : Heap} {n n' : Nat}, run fn todo tm h n = some (tm', h', n') →
  ∀ {σ : Stage} {ρ : Ren} {pm : Perm} {w : World} {b : Frame} {a : Act} {cs : List Frame} {N : Nat}, At P C σ ρ h w pm n N → n' ≤ N → TRel ρ fn.nt tm a → b.kind ≠ .early →
    (∀ σ' ρ' pm' w' a' todo', Runs ρ h w pm n ρ' h' w' pm' n' → StageOk ρ' h' σ' → TRel ρ' fn.nt tm' a' → a'.defers = a.defers → C.Go σ' pm' (G { b.at a' todo' with mode := .returning } cs) w') →
    C.Go σ pm (G (b.at a todo) cs) w
/-- .. of a region -/
def RegionOk {P : Program} (T : Tbl) (C : Ctx P) (call : CallA) : Prop :=
  ∀ {nt id : Nat} {ops : Array Oper} {draw : Bool} {tm tm' : Tmps} {h h' : Heap} {n n' : Nat}, aRegion P T call nt ops.toList draw tm h n = some (tm', h', n') →
  ∀ {σ : Stage} {ρ : Ren} {pm : Perm} {w : World} {b : Frame} {a : Act} {k : List Item} {cs : List Frame} {N : Nat}, At P C σ ρ h w pm n N → n' ≤ N → TRel ρ nt tm a → b.kind ≠ .early →
    (∀ σ' ρ' pm' w' a', Runs ρ h w pm n ρ' h' w' pm' n' → StageOk ρ' h' σ' → TRel ρ' nt tm' a' → a'.defers = a.defers → C.Go σ' pm' (G (b.at a' k) cs) w') →
    C.Go σ pm (G (b.at a (.code (.region id ops draw) :: k)) cs) w

section
variable {P : Program} {T : Tbl} {C : Ctx P} {sp : Sp} {run : RunA}
theorem run_step (MR : MonoR run) (hr : RunOk C run) (hg : RegionOk T C (callA T sp run)) : RunOk C (stepA P T sp run) := by
  intro fn todo tm tm' h h' n n' e σ ρ pm w b a cs N A hN R hk hK
  have ke : b.kind ≠ .early := hk
  -- a move of control, then the rest
  have go : ∀ {todo' : List Item}, (∀ w, stepG P C.main (G (b.at a todo) cs) w = .go (G (b.at a todo') cs) w #[]) → run fn todo' tm h n = some (tm', h', n') → C.Go σ pm (G (b.at a todo) cs) w := by
    intro todo' hs he
    refine C.ctl rfl hs fun w₁ r => hr he (A.rely r) hN R hk fun σ' ρ' pm' w' a' td r' s' R' d' => hK σ' ρ' pm' w' a' td ((Runs.rely A.sim r n).trans r') s' R' d'
  have fin : ∀ {td : List Item}, (∀ w, stepG P C.main (G (b.at a todo) cs) w = .go (G { b.at a td with mode := .returning } cs) w #[]) → tm' = tm → h' = h → n' = n → C.Go σ pm (G (b.at a todo) cs) w := by
    rintro td hs rfl rfl rfl
    exact C.ctl rfl hs fun w₁ r => hK σ ρ pm w₁ a td (Runs.rely A.sim r n') A.stage R rfl
  unfold stepA at e
  split at e
  · cases e
    exact fin (fun w => stepG_end) rfl rfl rfl
  · rename_i it k
    cases it with
    | code c =>
      dsimp only at e
      cases c with
      | ret => cases e; exact fin (fun w => stepG_ret') rfl rfl rfl
      | skip => exact go (fun w => stepG_skip) e
      | seq x y => exact go (fun w => stepG_seq) e
      | block id x => exact go (fun w => stepG_block) e
      | loop x => exact go (fun w => stepG_loop) e
      | scope x => exact go (fun w => by simp [G, stepG, stepG.exec, Frame.at]) e
      | cond c x y =>
        have e : condA run fn x y k tm h n (ev tm c) = some (tm', h', n') := e
        unfold condA at e
        split at e
        · rename_i hc
          have r := ev_rel A.sim.glob R hc
          generalize hq : a.eval c = q at r
          cases r
          exact go (fun w => by rw [stepG_cond hq]; rfl) e
        · rename_i hc
          have r := ev_rel A.sim.glob R hc
          generalize hq : a.eval c = q at r
          cases r
          exact go (fun w => by rw [stepG_cond hq]; rfl) e
        · cases e
      | exit id =>
        have e : exitA run fn tm h n (exitTo id k) = some (tm', h', n') := e
        unfold exitA at e
        split at e
        · rename_i k' hx
          exact go (fun w => stepG_exit hx) e
        · cases e
      | region id ops draw =>
        have e : thenA run fn k (aRegion P T (callA T sp run) fn.nt ops.toList draw tm h n) = some (tm', h', n') := e
        unfold thenA at e
        split at e
        · rename_i tm1 h1 n1 hx
          exact hg hx A (Nat.le_trans (MR e) hN) R ke fun σ1 ρ1 pm1 w1 a1 r1 s1 R1 d1 => hr e (r1.at A s1) hN R1.trim hk fun σ' ρ' pm' w' a' td r' s' R' d' => hK σ' ρ' pm' w' a' td (r1.trans r') s' R' (d'.trans d1)
        · cases e
      | _ => cases e
    | inBlock id => exact go (fun w => stepG_inBlock) e
    | inScope x => exact go (fun w => by simp [G, stepG, stepG.exec, Frame.at]) e
    | inLoop x => exact go (fun w => stepG_inLoop) e
    | _ => cases e
end
end Go.Det
