/-
  What is proved here: an argument of a law stands for a string or a byte. Conditions: the argument reads as its type says.
-/
import Derived.Test.YtmmgcodoimpklaaWalkB

namespace Go.Proofs.Ytmmgcodoimpklaa
open Go.Dv Go.ChangeShapes Go.WideShapes Go.ChangeAt Go.RowKit

def tt : List Nat := [9, 5]
theorem plain : plainB Try.prog tt = true := by kernel_rfl
theorem own : ownKnob Try.prog.godebug = none := by kernel_rfl
theorem laidOut : laidOutB Try.prog = true := by kernel_rfl

theorem typed_string {y : V} (h : TypedV Try.prog 9 y) : ∃ s : ByteArray, y = strV s := by
  have h : Typed Try.prog 9 [y] := h
  have hu : Try.prog.underlying 9 = some .string := by kernel_rfl
  generalize hy : [y] = l at h
  cases h with
  | string _ s _ => exact ⟨s, by simpa [strV] using hy⟩
  | bool h => rw [hu] at h; cases h
  | int h => rw [hu] at h; cases h
  | slice h => rw [hu] at h; cases h
  | struct h => rw [hu] at h; cases h
  | array h => rw [hu] at h; cases h
theorem typed_u8 {y : V} (h : TypedV Try.prog 5 y) : ∃ b : Nat, b < 256 ∧ y = byteV b := by
  have h : Typed Try.prog 5 [y] := h
  have hu : Try.prog.underlying 5 = some (.int .u8) := by kernel_rfl
  generalize hy : [y] = l at h
  cases h with
  | int h n hw =>
    rw [hu] at h; cases h
    have : 0 ≤ n ∧ n ≤ 255 := by simpa [Lit.wf, IntKind.min, IntKind.max, IntKind.signed, IntKind.bits] using hw
    refine ⟨n.toNat, by omega, ?_⟩
    have e : y = .lit (.int .u8 n) := by simpa using hy
    rw [e, byteV, Int.toNat_of_nonneg this.1]
  | string h => rw [hu] at h; cases h
  | bool h => rw [hu] at h; cases h
  | slice h => rw [hu] at h; cases h
  | struct h => rw [hu] at h; cases h
  | array h => rw [hu] at h; cases h

end Go.Proofs.Ytmmgcodoimpklaa
