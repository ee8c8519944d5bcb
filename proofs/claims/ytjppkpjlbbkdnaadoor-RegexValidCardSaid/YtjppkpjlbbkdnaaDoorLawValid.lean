/-
  What is proved here: the given statement of the law RegexValid, as a tied card: whatever the input, the law returns true and leaves its arguments as they were. Conditions: none beyond the statement's own.
-/
import Derived.Test.YtjppkpjlbbkdnaaDoorTyA
set_option linter.unusedVariables false
set_option linter.unusedSimpArgs false
namespace Go.Proofs.YtjppkpjlbbkdnaaDoor
open Go Go.Dv

open Go.ChangeShapes Go.WideShapes Go.ChangeAt Go.RowKit

theorem law3 (ys : List V) (h : TypedAll Tryd.prog Tryd.f3.params.toList ys) : FnEv tab ext 3 (ys.map X.v) [] (.ret [.lit (.bool true)], []) := by
  match ys, h with
  | [x], ⟨h1, _⟩ =>
    obtain ⟨r, hr, rfl⟩ := typed_rx' h1
    exact ev3 hr

set_option maxRecDepth 100000 in
theorem regexValid_lifted (os : Os) (started : os.Started) (H : Type) (enc : TypeId × Value → H) :
    ReturnsInHanded {} Tryd.checked os 3 .any (fun w args => (Rows.regexValidSpec.pre enc Tryd.prog Tryd.f3 [] false w args ∧ laidMetH Tryd.prog laidT w) ∧ sizedMet enc Tryd.prog Tryd.f3 (OpenSpec.ofChange Rows.regexValidSpec) false w args)
      (Rows.regexValidSpec.post enc Tryd.prog Tryd.f3 false true false false) := by
  refine returnsInHanded_of_change_and (C := Tryd.checked) (X := fun w _ => laidMetH Tryd.prog laidT w) (fun _ _ _ hh h => h.of_heap hh) own started (by kernel_rfl) Tryd.func3
    (ChangeSpec.witness_shaped (enc := enc) (C := Tryd.checked) (os := os) (X := fun w _ => laidMetH Tryd.prog laidT w) false (World.doorLaid Tryd.prog 400 os) #[.agg #[.int .i64 0, .int .u64 0, .int .u64 0, .int .u64 0, .int .u64 0, .slice none 0 0]] 8 rfl (World.shaped_of_RefB (by kernel_rfl) (by kernel_rfl)) (by kernel_rfl) (by kernel_rfl) (by kernel_rfl) (door_met os _)) ?_
  intro W base args ds gs before hval0 hW _ _ hL _
  exact law_calls tabOk extOk laidOut fn3 plain (by kernel_rfl) (bt := 4) rfl (by kernel_rfl) law3 (fun ds hd => by
    match ds, hd with
    | [d0], _ => rfl) rfl hval0 hW (tab_at hL)

theorem regexValid_row : Rows.RegexValidSaid :=
  OpenClaim.holds_of_wide 3 Tryd.f3 rfl rfl rfl rfl rfl rfl rfl ⟨rfl, rfl, rfl, rfl, rfl⟩ rfl rfl rfl rfl rfl (by kernel_rfl) Tryd.func3 (by kernel_rfl)
    (of_decide_eq_true (by kernel_rfl)) (by unfold Func.isWrapper; first | (rw [if_pos (by decide +kernel)]; kernel_rfl) | (rw [if_neg (by decide +kernel)]; exact ⟨rfl, rfl⟩))
    (fun os started H enc _ => regexValid_lifted os started H enc)

theorem regexValid_holds : Rows.RegexValidCardSaid :=
  Claim7.holds_tied_plain_at .later [] [.data] true (true, "dd46b08e84a61b7e61138d74753cff02afb7ed2cf4ddd25005136ca1f7ca6772") true
    regexValid_row (fun _ h => by cases h) (by kernel_rfl) (fun _ h => by cases h) regexValid_row_tie rfl ⟨rfl, rfl⟩ (by kernel_rfl) rfl
    (fun f fn hf hfn => by
      obtain rfl : f = 3 := Option.some.inj ((show Tryd.prog.funcNamed "emendate/emendatelaw08.RegexValid" = some 3 by kernel_rfl).symm.trans hf) |>.symm
      obtain rfl : fn = Tryd.f3 := (Option.some.inj (Tryd.func3.symm.trans hfn)).symm
      exact ⟨by kernel_rfl, fun j t ht => by
        rw [Tryd.params3] at ht
        have hm : t ∈ [27] := by simpa using Array.mem_of_getElem? ht
        have hall : ([27].all fun u => !Tryd.prog.wantsStandIn u) = true := by kernel_rfl
        exact (show Tryd.prog.wantsStandIn t = false by simpa using List.all_eq_true.1 hall t hm)⟩)
    (by kernel_rfl)

end Go.Proofs.YtjppkpjlbbkdnaaDoor
