/-
  What is proved here: the given statement of the law edit: whatever the input, the law returns true and leaves its arguments as they were. Conditions: none beyond the statement's own.
-/
import Derived.Test.YtmmgcodoimpklaaTyped

namespace Go.Proofs.Ytmmgcodoimpklaa
open Go.Dv Go.ChangeShapes Go.WideShapes Go.ChangeAt Go.RowKit

theorem law5 (ys : List V) (h : TypedAll Try.prog Try.f5.params.toList ys) : FnEv tab ext 5 (ys.map X.v) [] (.ret [.lit (.bool true)], []) := by
  match ys, h with
  | [x, y, z], ⟨h1, h2, h3, _⟩ =>
    obtain ⟨s, rfl⟩ := typed_string h1
    obtain ⟨p, hp, rfl⟩ := typed_u8 h2
    obtain ⟨c, hc, rfl⟩ := typed_u8 h3
    exact ev5 hp hc

set_option maxRecDepth 100000 in
theorem edit_lifted (os : Os) (started : os.Started) (H : Type) (enc : TypeId × Value → H) :
    ReturnsInHanded {} Try.checked os 5 .any (Rows.lexrepairSingleEditSpec.pre6 enc Try.prog Try.f5 Rows.lexrepairSingleEditRow.domain false) (Rows.lexrepairSingleEditSpec.post enc Try.prog Try.f5 false true false false) := by
  refine returnsInHanded_of_change (C := Try.checked) own started (by kernel_rfl) Try.func5
    (ChangeSpec.witness6 (enc := enc) (C := Try.checked) false ⟨#[], #[.string ⟨#[]⟩, .int .u8 0, .int .u8 0], []⟩ 8 (by kernel_rfl) (by kernel_rfl) (by kernel_rfl) (by kernel_rfl)) ?_
  intro W base args ds gs before hval0 hW hcnd _
  exact law_calls tabOk extOk laidOut fn5 plain (by kernel_rfl) (bt := 4) rfl (by kernel_rfl) law5 (fun ds hd => by
    match ds, hd with
    | [a, b, c], _ => rfl) rfl hval0 hW

theorem edit_holds : Rows.LexrepairSingleEditSaid :=
  OpenClaim.holds_of_wide 5 Try.f5 rfl rfl rfl rfl rfl rfl rfl ⟨rfl, rfl, rfl, rfl, rfl⟩ rfl rfl rfl rfl rfl (by kernel_rfl) Try.func5 (by kernel_rfl)
    (of_decide_eq_true (by kernel_rfl)) (by unfold Func.isWrapper; first | (rw [if_pos (by decide +kernel)]; kernel_rfl) | (rw [if_neg (by decide +kernel)]; exact ⟨rfl, rfl⟩))
    (fun os started H enc _ => edit_lifted os started H enc)

end Go.Proofs.Ytmmgcodoimpklaa
