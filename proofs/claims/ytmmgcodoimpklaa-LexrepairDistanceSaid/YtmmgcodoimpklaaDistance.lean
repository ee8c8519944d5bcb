/-
  What is proved here: the given statement of the law distance: whatever the input, the law returns true and leaves its arguments as they were. Conditions: none beyond the statement's own.
-/
import Derived.Test.YtmmgcodoimpklaaTyped
import Derived.Test.YtmmgcodoimpklaaWalkC

namespace Go.Proofs.Ytmmgcodoimpklaa
open Go.Dv Go.ChangeShapes Go.WideShapes Go.ChangeAt Go.RowKit

theorem law3 (ys : List V) (h : TypedAll Try.prog Try.f3.params.toList ys) : FnEv tab ext 3 (ys.map X.v) [] (.ret [.lit (.bool true)], []) := by
  match ys, h with
  | [x, y], ⟨h1, h2, _⟩ =>
    obtain ⟨a, rfl⟩ := typed_string h1
    obtain ⟨b, rfl⟩ := typed_string h2
    exact ev3

set_option maxRecDepth 100000 in
theorem distance_lifted (os : Os) (started : os.Started) (H : Type) (enc : TypeId × Value → H) :
    ReturnsInHanded {} Try.checked os 3 .any (Rows.lexrepairDistanceSpec.pre6 enc Try.prog Try.f3 Rows.lexrepairDistanceRow.domain false) (Rows.lexrepairDistanceSpec.post enc Try.prog Try.f3 false true false false) := by
  refine returnsInHanded_of_change (C := Try.checked) own started (by kernel_rfl) Try.func3
    (ChangeSpec.witness6 (enc := enc) (C := Try.checked) false ⟨#[], #[.string ⟨#[]⟩, .string ⟨#[]⟩], []⟩ 8 (by kernel_rfl) (by kernel_rfl) (by kernel_rfl) (by kernel_rfl)) ?_
  intro W base args ds gs before hval0 hW hcnd _
  exact law_calls tabOk extOk laidOut fn3 plain (by kernel_rfl) (bt := 4) rfl (by kernel_rfl) law3 (fun ds hd => by
    match ds, hd with
    | [a, b], _ => rfl) rfl hval0 hW

theorem distance_holds : Rows.LexrepairDistanceSaid :=
  OpenClaim.holds_of_wide 3 Try.f3 rfl rfl rfl rfl rfl rfl rfl ⟨rfl, rfl, rfl, rfl, rfl⟩ rfl rfl rfl rfl rfl (by kernel_rfl) Try.func3 (by kernel_rfl)
    (of_decide_eq_true (by kernel_rfl)) (by unfold Func.isWrapper; first | (rw [if_pos (by decide +kernel)]; kernel_rfl) | (rw [if_neg (by decide +kernel)]; exact ⟨rfl, rfl⟩))
    (fun os started H enc _ => distance_lifted os started H enc)

end Go.Proofs.Ytmmgcodoimpklaa
