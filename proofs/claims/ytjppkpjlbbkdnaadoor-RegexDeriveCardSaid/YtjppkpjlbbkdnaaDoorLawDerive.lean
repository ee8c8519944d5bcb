/-
  What is proved here: the given statement of the law RegexDerive, as a tied card: whatever the input, the law returns true and leaves its arguments as they were. Conditions: none beyond the statement's own.
-/
import Derived.Test.YtjppkpjlbbkdnaaDoorTyA
set_option linter.unusedVariables false
set_option linter.unusedSimpArgs false
namespace Go.Proofs.YtjppkpjlbbkdnaaDoor
open Go Go.Dv

open Go.ChangeShapes Go.WideShapes Go.ChangeAt Go.RowKit

theorem law8 (ys : List V) (h : TypedAll Tryd.prog Tryd.f8.params.toList ys) : FnEv tab ext 8 (ys.map X.v) [] (.ret [.lit (.bool true)], []) := by
  match ys, h with
  | [x, y, z], ⟨h1, h2, h3, _⟩ =>
    obtain ⟨r, hr, rfl⟩ := typed_rx' h1
    obtain ⟨b, hb, rfl⟩ := typed_u8 h2
    obtain ⟨s, rfl⟩ := typed_string h3
    exact ev8 hr hb

set_option maxRecDepth 100000 in
theorem regexDerive_lifted (os : Os) (started : os.Started) (H : Type) (enc : TypeId × Value → H) :
    ReturnsInHanded {} Tryd.checked os 8 .any (fun w args => (Rows.regexDeriveSpec.pre enc Tryd.prog Tryd.f8 [] false w args ∧ laidMetH Tryd.prog laidT w) ∧ sizedMet enc Tryd.prog Tryd.f8 (OpenSpec.ofChange Rows.regexDeriveSpec) false w args)
      (Rows.regexDeriveSpec.post enc Tryd.prog Tryd.f8 false true false false) := by
  refine returnsInHanded_of_change_and (C := Tryd.checked) (X := fun w _ => laidMetH Tryd.prog laidT w) (fun _ _ _ hh h => h.of_heap hh) own started (by kernel_rfl) Tryd.func8
    (ChangeSpec.witness_shaped (enc := enc) (C := Tryd.checked) (os := os) (X := fun w _ => laidMetH Tryd.prog laidT w) false (World.doorLaid Tryd.prog 400 os) #[.agg #[.int .i64 0, .int .u64 0, .int .u64 0, .int .u64 0, .int .u64 0, .slice none 0 0], .int .u8 0, .string ⟨#[]⟩] 8 rfl (World.shaped_of_RefB (by kernel_rfl) (by kernel_rfl)) (by kernel_rfl) (by kernel_rfl) (by kernel_rfl) (door_met os _)) ?_
  intro W base args ds gs before hval0 hW _ _ hL _
  exact law_calls tabOk extOk laidOut fn8 plain (by kernel_rfl) (bt := 4) rfl (by kernel_rfl) law8 (fun ds hd => by
    match ds, hd with
    | [d0, d1, d2], _ => rfl) rfl hval0 hW (tab_at hL)

theorem regexDerive_row : Rows.RegexDeriveSaid :=
  OpenClaim.holds_of_wide 8 Tryd.f8 rfl rfl rfl rfl rfl rfl rfl ⟨rfl, rfl, rfl, rfl, rfl⟩ rfl rfl rfl rfl rfl (by kernel_rfl) Tryd.func8 (by kernel_rfl)
    (of_decide_eq_true (by kernel_rfl)) (by unfold Func.isWrapper; first | (rw [if_pos (by decide +kernel)]; kernel_rfl) | (rw [if_neg (by decide +kernel)]; exact ⟨rfl, rfl⟩))
    (fun os started H enc _ => regexDerive_lifted os started H enc)

theorem regexDerive_holds : Rows.RegexDeriveCardSaid :=
  Claim7.holds_tied_plain_at .later [] [.data] true (true, "dd46b08e84a61b7e61138d74753cff02afb7ed2cf4ddd25005136ca1f7ca6772") true
    regexDerive_row (fun _ h => by cases h) (by kernel_rfl) (fun _ h => by cases h) regexDerive_row_tie rfl ⟨rfl, rfl⟩ (by kernel_rfl) rfl
    (fun f fn hf hfn => by
      obtain rfl : f = 8 := Option.some.inj ((show Tryd.prog.funcNamed "emendate/emendatelaw08.RegexDerive" = some 8 by kernel_rfl).symm.trans hf) |>.symm
      obtain rfl : fn = Tryd.f8 := (Option.some.inj (Tryd.func8.symm.trans hfn)).symm
      exact ⟨by kernel_rfl, fun j t ht => by
        rw [Tryd.params8] at ht
        have hm : t ∈ [27, 5, 9] := by simpa using Array.mem_of_getElem? ht
        have hall : ([27, 5, 9].all fun u => !Tryd.prog.wantsStandIn u) = true := by kernel_rfl
        exact (show Tryd.prog.wantsStandIn t = false by simpa using List.all_eq_true.1 hall t hm)⟩)
    (by kernel_rfl)

end Go.Proofs.YtjppkpjlbbkdnaaDoor
