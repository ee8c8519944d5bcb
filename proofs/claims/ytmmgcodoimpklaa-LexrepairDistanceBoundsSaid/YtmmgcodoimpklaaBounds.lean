/-
  What is proved here: the given statement of the law bounds: whatever the input, the law returns true and leaves its arguments as they were. Conditions: none beyond the statement's own.
-/
import Derived.Test.YtmmgcodoimpklaaTyped

namespace Go.Proofs.Ytmmgcodoimpklaa
open Go.Dv Go.ChangeShapes Go.WideShapes Go.ChangeAt Go.RowKit

theorem law4 (ys : List V) (h : TypedAll Try.prog Try.f4.params.toList ys) : FnEv tab ext 4 (ys.map X.v) [] (.ret [.lit (.bool true)], []) := by
  match ys, h with
  | [x, y], ⟨h1, h2, _⟩ =>
    obtain ⟨a, rfl⟩ := typed_string h1
    obtain ⟨b, rfl⟩ := typed_string h2
    exact ev4

set_option maxRecDepth 100000 in
theorem bounds_lifted (os : Os) (started : os.Started) (H : Type) (enc : TypeId × Value → H) :
    ReturnsInHanded {} Try.checked os 4 .any (Rows.lexrepairDistanceBoundsSpec.pre6 enc Try.prog Try.f4 Rows.lexrepairDistanceBoundsRow.domain false) (Rows.lexrepairDistanceBoundsSpec.post enc Try.prog Try.f4 false true false false) := by
  refine returnsInHanded_of_change (C := Try.checked) own started (by kernel_rfl) Try.func4
    (ChangeSpec.witness6 (enc := enc) (C := Try.checked) false ⟨#[], #[.string ⟨#[]⟩, .string ⟨#[]⟩], []⟩ 8 (by kernel_rfl) (by kernel_rfl) (by kernel_rfl) (by kernel_rfl)) ?_
  intro W base args ds gs before hval0 hW hcnd _
  exact law_calls tabOk extOk laidOut fn4 plain (by kernel_rfl) (bt := 4) rfl (by kernel_rfl) law4 (fun ds hd => by
    match ds, hd with
    | [a, b], _ => rfl) rfl hval0 hW

theorem bounds_holds : Rows.LexrepairDistanceBoundsSaid :=
  OpenClaim.holds_of_wide 4 Try.f4 rfl rfl rfl rfl rfl rfl rfl ⟨rfl, rfl, rfl, rfl, rfl⟩ rfl rfl rfl rfl rfl (by kernel_rfl) Try.func4 (by kernel_rfl)
    (of_decide_eq_true (by kernel_rfl)) (by unfold Func.isWrapper; first | (rw [if_pos (by decide +kernel)]; kernel_rfl) | (rw [if_neg (by decide +kernel)]; exact ⟨rfl, rfl⟩))
    (fun os started H enc _ => bounds_lifted os started H enc)

end Go.Proofs.Ytmmgcodoimpklaa
