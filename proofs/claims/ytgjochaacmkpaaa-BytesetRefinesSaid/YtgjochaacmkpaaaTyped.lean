/-
  What is proved here: an argument of a law stands for a string, a byte, a set or a list of sets. Conditions: the argument reads as its type says.
-/
import Derived.Test.YtgjochaacmkpaaaWalkB

namespace Go.Proofs.Ytgjochaacmkpaaa
open Go.Dv Go.ChangeShapes Go.WideShapes Go.ChangeAt Go.RowKit

def tt : List Nat := [9, 5, 23, 24, 25, 30, 35]
theorem plain : plainB Try.prog tt = true := by kernel_rfl
theorem own : ownKnob Try.prog.godebug = none := by kernel_rfl
theorem laidOut : laidOutB Try.prog = true := by kernel_rfl
theorem extOk : ExtOk Try.prog tab ext0 := fun f fn a1 cs res cs' hf h => nomatch h

theorem typed_string {y : V} (h : TypedV Try.prog 9 y) : ∃ s : ByteArray, y = .lit (.string s) := by
  have h : Typed Try.prog 9 [y] := h
  have hu : Try.prog.underlying 9 = some .string := by kernel_rfl
  generalize hy : [y] = l at h
  cases h with
  | string _ s _ => exact ⟨s, by simpa using hy⟩
  | bool h => rw [hu] at h; cases h
  | int h => rw [hu] at h; cases h
  | slice h => rw [hu] at h; cases h
  | struct h => rw [hu] at h; cases h
  | array h => rw [hu] at h; cases h
theorem typed_u8 {y : V} (h : Typed Try.prog 5 [y]) : ∃ b : Nat, b < 256 ∧ y = byteV b := by
  have hu : Try.prog.underlying 5 = some (.int .u8) := by kernel_rfl
  generalize hy : [y] = l at h
  cases h with
  | int h n hw =>
    rw [hu] at h; cases h
    have : 0 ≤ n ∧ n ≤ 255 := by simpa [Lit.wf, IntKind.min, IntKind.max, IntKind.signed, IntKind.bits] using hw
    refine ⟨n.toNat, by omega, ?_⟩
    have e : y = .lit (.int .u8 n) := by simpa using hy
    rw [e, byteV, Int.toNat_of_nonneg this.1]
  | string h => rw [hu] at h; cases h
  | bool h => rw [hu] at h; cases h
  | slice h => rw [hu] at h; cases h
  | struct h => rw [hu] at h; cases h
  | array h => rw [hu] at h; cases h
theorem typed_u64 {y : V} (h : Typed Try.prog 23 [y]) : ∃ b : Nat, b < 2 ^ 64 ∧ y = word b := by
  have hu : Try.prog.underlying 23 = some (.int .u64) := by kernel_rfl
  generalize hy : [y] = l at h
  cases h with
  | int h n hw =>
    rw [hu] at h; cases h
    have : 0 ≤ n ∧ n ≤ 18446744073709551615 := by simpa [Lit.wf, IntKind.min, IntKind.max, IntKind.signed, IntKind.bits] using hw
    refine ⟨n.toNat, by omega, ?_⟩
    have e : y = .lit (.int .u64 n) := by simpa using hy
    rw [e, word, Int.toNat_of_nonneg this.1]
  | string h => rw [hu] at h; cases h
  | bool h => rw [hu] at h; cases h
  | slice h => rw [hu] at h; cases h
  | struct h => rw [hu] at h; cases h
  | array h => rw [hu] at h; cases h
theorem typed_words {l : List V} (h : Typed Try.prog 25 l) : ∃ W, isW W ∧ l = W.map word := by
  have hu : Try.prog.underlying 25 = some (.array 4 23) := by kernel_rfl
  have hc : Try.prog.cellsOf 23 = 1 := by kernel_rfl
  cases h with
  | array h cs hl hr =>
    rw [hu] at h; cases h
    rw [hc] at hl hr
    match l, hl with
    | [a, b, c, d], _ =>
      obtain ⟨w0, k0, rfl⟩ := typed_u64 (hr 0 (by omega))
      obtain ⟨w1, k1, rfl⟩ := typed_u64 (hr 1 (by omega))
      obtain ⟨w2, k2, rfl⟩ := typed_u64 (hr 2 (by omega))
      obtain ⟨w3, k3, rfl⟩ := typed_u64 (hr 3 (by omega))
      refine ⟨[w0, w1, w2, w3], ⟨rfl, fun i => ?_⟩, rfl⟩
      match i with
      | 0 => exact k0
      | 1 => exact k1
      | 2 => exact k2
      | 3 => exact k3
      | i + 4 => exact Nat.two_pow_pos 64
  | string h => rw [hu] at h; cases h
  | bool h => rw [hu] at h; cases h
  | int h => rw [hu] at h; cases h
  | slice h => rw [hu] at h; cases h
  | struct h => rw [hu] at h; cases h
theorem typed_set {y : V} (h : TypedV Try.prog 25 y) : ∃ W, isW W ∧ y = setV W := by
  obtain ⟨cs, rfl, k⟩ := (h : ∃ cs, y = .agg cs ∧ Typed Try.prog 25 cs)
  obtain ⟨W, hW, rfl⟩ := typed_words k
  exact ⟨W, hW, rfl⟩
theorem typed_two {y : V} (h0 : TypedV Try.prog 35 y) : ∃ a b : Nat, a < 256 ∧ b < 256 ∧ y = .agg [byteV a, byteV b] := by
  obtain ⟨l, rfl, k⟩ := (h0 : ∃ cs, y = .agg cs ∧ Typed Try.prog 35 cs)
  have hu : Try.prog.underlying 35 = some (.array 2 5) := by kernel_rfl
  have hc : Try.prog.cellsOf 5 = 1 := by kernel_rfl
  cases k with
  | array h cs hl hr =>
    rw [hu] at h; cases h
    rw [hc] at hl hr
    match l, hl with
    | [a, b], _ =>
      obtain ⟨w0, k0, rfl⟩ := typed_u8 (hr 0 (by omega))
      obtain ⟨w1, k1, rfl⟩ := typed_u8 (hr 1 (by omega))
      exact ⟨w0, w1, k0, k1, rfl⟩
  | string h => rw [hu] at h; cases h
  | bool h => rw [hu] at h; cases h
  | int h => rw [hu] at h; cases h
  | slice h => rw [hu] at h; cases h
  | struct h => rw [hu] at h; cases h
theorem rows_sets : ∀ (es : List (List V)), (∀ r ∈ es, Typed Try.prog 25 r) → ∃ S : List (List Nat), (∀ W ∈ S, isW W) ∧ es = rowS S
  | [], _ => ⟨[], fun W h => by simp at h, rfl⟩
  | r :: es, h => by
    obtain ⟨W, hW, rfl⟩ := typed_words (h r List.mem_cons_self)
    obtain ⟨S, hS, rfl⟩ := rows_sets es fun r hr => h r (List.mem_cons_of_mem _ hr)
    refine ⟨W :: S, fun V hV => ?_, rfl⟩
    rcases List.mem_cons.1 hV with rfl | hV
    · exact hW
    · exact hS V hV
theorem typed_sets {y : V} (h : TypedV Try.prog 30 y) : ∃ S : List (List Nat), (∀ W ∈ S, isW W) ∧ y = .sl 4 (rowS S) := by
  have h : Typed Try.prog 30 [y] := h
  have hu : Try.prog.underlying 30 = some (.slice 25) := by kernel_rfl
  have hc : Try.prog.cellsOf 25 = 4 := by kernel_rfl
  generalize hy : [y] = l at h
  cases h with
  | slice h es hl hr =>
    rw [hu] at h; cases h
    obtain ⟨S, hS, rfl⟩ := rows_sets es hr
    exact ⟨S, hS, by rw [hc] at hy; simpa using hy⟩
  | string h => rw [hu] at h; cases h
  | bool h => rw [hu] at h; cases h
  | int h => rw [hu] at h; cases h
  | struct h => rw [hu] at h; cases h
  | array h => rw [hu] at h; cases h

end Go.Proofs.Ytgjochaacmkpaaa
