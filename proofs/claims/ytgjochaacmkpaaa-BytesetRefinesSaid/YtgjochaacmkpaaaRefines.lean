/-
  What is proved here: the given statement of the law refines: whatever the input, the law returns true and leaves its arguments as they were. Conditions: none beyond the statement's own.
-/
import Derived.Test.YtgjochaacmkpaaaTyped
import Derived.Test.YtgjochaacmkpaaaWalkC

namespace Go.Proofs.Ytgjochaacmkpaaa
open Go.Dv Go.ChangeShapes Go.WideShapes Go.ChangeAt Go.RowKit

theorem law5 (ys : List V) (h : TypedAll Try.prog Try.f5.params.toList ys) : FnEv tab ext0 5 (ys.map X.v) [] (.ret [.lit (.bool true)], []) := by
  match ys, h with
  | [x, y, z], ⟨h1, h2, h3, _⟩ =>
    obtain ⟨S, hS, rfl⟩ := typed_sets h1
    obtain ⟨M, hM, rfl⟩ := typed_set h2
    obtain ⟨a, b, ha, hb, rfl⟩ := typed_two h3
    exact ev5 hS hM ha hb

set_option maxRecDepth 100000 in
theorem refines_lifted (os : Os) (started : os.Started) (H : Type) (enc : TypeId × Value → H) :
    ReturnsInHanded {} Try.checked os 5 .any (Rows.bytesetRefinesSpec.pre6 enc Try.prog Try.f5 Rows.bytesetRefinesRow.domain false) (Rows.bytesetRefinesSpec.post enc Try.prog Try.f5 false true false false) := by
  refine returnsInHanded_of_change (C := Try.checked) own started (by kernel_rfl) Try.func5
    (ChangeSpec.witness6 (enc := enc) (C := Try.checked) false ⟨#[], #[.slice none 0 0, .agg #[.int .u64 0, .int .u64 0, .int .u64 0, .int .u64 0], .agg #[.int .u8 0, .int .u8 0]], []⟩ 8 (by kernel_rfl) (by kernel_rfl) (by kernel_rfl) (by kernel_rfl)) ?_
  intro W base args ds gs before hval0 hW hcnd _
  exact law_calls tabOk extOk laidOut fn5 plain (by kernel_rfl) (bt := 4) rfl (by kernel_rfl) law5 (fun ds hd => by
    match ds, hd with
    | [a, b, c], _ => rfl) rfl hval0 hW

theorem refines_holds : Rows.BytesetRefinesSaid :=
  OpenClaim.holds_of_wide 5 Try.f5 rfl rfl rfl rfl rfl rfl rfl ⟨rfl, rfl, rfl, rfl, rfl⟩ rfl rfl rfl rfl rfl (by kernel_rfl) Try.func5 (by kernel_rfl)
    (of_decide_eq_true (by kernel_rfl)) (by unfold Func.isWrapper; first | (rw [if_pos (by decide +kernel)]; kernel_rfl) | (rw [if_neg (by decide +kernel)]; exact ⟨rfl, rfl⟩))
    (fun os started H enc _ => refines_lifted os started H enc)

end Go.Proofs.Ytgjochaacmkpaaa
