/- A part of the evaluator, or one closed fact about it. Conditions: none beyond what each theorem states. -/
import Derived.Test.YtohliokdpiafbaaGreatDoorDetMf
import Derived.Test.YtohliokdpiafbaaGreatDoorCards
set_option linter.unusedVariables false
set_option maxRecDepth 100000
namespace Go.Det
open Go.Proofs Go.Conc
open Go.Proofs.YtohliokdpiafbaaGreatDoor

theorem well_of {Post : Value → World → Prop} {c : Can} {cs : List Can} (HC : ∀ c ∈ cs, CanWell Tryz.prog tbl (ctx0 Tryz.prog Post) c) {F : Nat} (ok : canOk Tryz.prog tbl (canSp cs (sp43 Tryz.prog tbl 183 193 ordI)) F c = true) : CanWell Tryz.prog tbl (ctx0 Tryz.prog Post) c :=
  ⟨_, F, fun e => CanWell.mono (fun e => sp0_mono e) HC e, fun e => canSp_ok tblOk (recv0_ok (P := Tryz.prog) (Post := Post) (T := tbl) rfl) hmix (fun e => sp0_ok Post e) HC e, ok⟩
theorem well_nil {Post : Value → World → Prop} : ∀ c ∈ ([] : List Can), CanWell Tryz.prog tbl (ctx0 Tryz.prog Post) c := fun c h => by cases h
theorem well_one {Post : Value → World → Prop} {d : Can} (h : CanWell Tryz.prog tbl (ctx0 Tryz.prog Post) d) : ∀ c ∈ [d], CanWell Tryz.prog tbl (ctx0 Tryz.prog Post) c := fun c hc => by
  rw [List.mem_singleton.1 hc]; exact h
theorem well_cons {Post : Value → World → Prop} {d : Can} {l : List Can} (h : CanWell Tryz.prog tbl (ctx0 Tryz.prog Post) d) (hl : ∀ c ∈ l, CanWell Tryz.prog tbl (ctx0 Tryz.prog Post) c) : ∀ c ∈ d :: l, CanWell Tryz.prog tbl (ctx0 Tryz.prog Post) c := fun c hc => by
  rcases List.mem_cons.1 hc with rfl | hc
  · exact h
  · exact hl c hc

theorem known_row {F : Nat} {cs : List Can} (HC : ∀ Post, ∀ c ∈ cs, CanWell Tryz.prog tbl (ctx0 Tryz.prog Post) c) (ht : topB Tryz.prog tbl (canSp cs (sp43 Tryz.prog tbl 183 193 ordI)) F 6 [] h0 64 = true) : Rows.CoachKnownSaid :=
  OpenClaim.holds_of_wide_leaving 6 Tryz.f6 rfl rfl rfl rfl rfl rfl rfl ⟨rfl, rfl, rfl, rfl, rfl⟩ rfl rfl rfl rfl rfl (by kernel_rfl) Tryz.func6 (by kernel_rfl)
    (of_decide_eq_true (by kernel_rfl)) (by unfold Func.isWrapper; first | (rw [if_pos (by decide +kernel)]; kernel_rfl) | (rw [if_neg (by decide +kernel)]; exact ⟨rfl, rfl⟩))
    (fun os started H enc _ => known_lifted HC ht os started H enc)

/-- a tied card whose call starts goroutines -/
theorem tied_goes (Lk : Looks) {p : Pinned} {s : OpenSpec} {c : OpenClaim} (kinds : List LaidKind) (tests : Bool) (har : Bool × String) (lk : Bool)
    (hc : c.holds p s) (hw : c.wfByText s = true) (htie : c.laidByTextAt Lk p kinds tests)
    (hst : c.start = .entering) (hnb : c.noBlocks = false ∧ c.again = false) (hm : p.checked.prog.mainIs = some (har.1, har.2.toList)) (hn : (!har.1 && har.2.isEmpty && !lk) = false)
    (hl : ∀ f fn, p.checked.prog.funcNamed c.func = some f → p.checked.prog.funcs[f]? = some fn → lk = p.checked.prog.looks [] ∧ ∀ (j : Nat) t, fn.params[j]? = some t → p.checked.prog.wantsStandIn t = false)
    (hg : true = c.goesBy p.checked.prog) :
    Claim7.holds p (.plain s) { stood := { row := c, standIns := [], harness := har, looks := lk }, kinds := [], alts := [], goes := true, laidByText := true, laidKinds := kinds, laidTests := tests, laidLooks := Lk } := by
  have h6 : Claim7.isSixth { stood := { row := c, standIns := [], harness := har, looks := lk }, kinds := [] } = false := by simpa [Claim7.isSixth] using hn
  exact ⟨Claim7.tied_new_at Lk kinds tests (Claim7.new_of_sixth hc har lk hst hnb hm h6 hl) hw, fun D hD => (by cases hD), htie, (fun h => by cases h), hg⟩

theorem known_card (h : Rows.CoachKnownSaid) : Rows.CoachKnownCardSaid :=
  tied_goes .later [.data, .data, .data, .data] true (true, "1a1ffd28fb0969951fd0d9fd19b129e9c4f35086981f6db5c4d133f6a208ce5d") true
    h (by kernel_rfl) coachKnown_row_tie rfl ⟨rfl, rfl⟩ (by kernel_rfl) rfl
    (fun f fn hf hfn => by
      obtain rfl : f = 6 := Option.some.inj ((show Tryz.prog.funcNamed "parlour/parlourlaw43.CoachKnown" = some 6 by kernel_rfl).symm.trans hf) |>.symm
      obtain rfl : fn = Tryz.f6 := (Option.some.inj (Tryz.func6.symm.trans hfn)).symm
      exact ⟨by kernel_rfl, fun j t ht => by
        rw [Tryz.params6] at ht
        simp at ht⟩)
    (by kernel_rfl)
end Go.Det
