/-
  What is proved here: the given statement of the law algebra: whatever the input, the law returns true and leaves its arguments as they were. Conditions: none beyond the statement's own.
-/
import Derived.Test.YtgjochaacmkpaaaTyped

namespace Go.Proofs.Ytgjochaacmkpaaa
open Go.Dv Go.ChangeShapes Go.WideShapes Go.ChangeAt Go.RowKit

theorem law7 (ys : List V) (h : TypedAll Try.prog Try.f7.params.toList ys) : FnEv tab ext0 7 (ys.map X.v) [] (.ret [.lit (.bool true)], []) := by
  match ys, h with
  | [x, y, z], ⟨h1, h2, h3, _⟩ =>
    obtain ⟨A, hA, rfl⟩ := typed_set h1
    obtain ⟨B, hB, rfl⟩ := typed_set h2
    obtain ⟨C, hC, rfl⟩ := typed_set h3
    exact ev7 hA hB hC

set_option maxRecDepth 100000 in
theorem algebra_lifted (os : Os) (started : os.Started) (H : Type) (enc : TypeId × Value → H) :
    ReturnsInHanded {} Try.checked os 7 .any (Rows.bytesetAlgebraSpec.pre6 enc Try.prog Try.f7 Rows.bytesetAlgebraRow.domain false) (Rows.bytesetAlgebraSpec.post enc Try.prog Try.f7 false true false false) := by
  refine returnsInHanded_of_change (C := Try.checked) own started (by kernel_rfl) Try.func7
    (ChangeSpec.witness6 (enc := enc) (C := Try.checked) false ⟨#[], #[.agg #[.int .u64 0, .int .u64 0, .int .u64 0, .int .u64 0], .agg #[.int .u64 0, .int .u64 0, .int .u64 0, .int .u64 0], .agg #[.int .u64 0, .int .u64 0, .int .u64 0, .int .u64 0]], []⟩ 8 (by kernel_rfl) (by kernel_rfl) (by kernel_rfl) (by kernel_rfl)) ?_
  intro W base args ds gs before hval0 hW hcnd _
  exact law_calls tabOk extOk laidOut fn7 plain (by kernel_rfl) (bt := 4) rfl (by kernel_rfl) law7 (fun ds hd => by
    match ds, hd with
    | [a, b, c], _ => rfl) rfl hval0 hW

theorem algebra_holds : Rows.BytesetAlgebraSaid :=
  OpenClaim.holds_of_wide 7 Try.f7 rfl rfl rfl rfl rfl rfl rfl ⟨rfl, rfl, rfl, rfl, rfl⟩ rfl rfl rfl rfl rfl (by kernel_rfl) Try.func7 (by kernel_rfl)
    (of_decide_eq_true (by kernel_rfl)) (by unfold Func.isWrapper; first | (rw [if_pos (by decide +kernel)]; kernel_rfl) | (rw [if_neg (by decide +kernel)]; exact ⟨rfl, rfl⟩))
    (fun os started H enc _ => algebra_lifted os started H enc)

end Go.Proofs.Ytgjochaacmkpaaa
