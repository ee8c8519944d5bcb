/-
  What is proved here: an argument of a law stands for an expression, a byte, a string; the table of the library lies as its text lays it. Conditions: those at each theorem.
-/
import Derived.Test.YtjppkpjlbbkdnaaDoorWalkD
import Derived.Test.YtjppkpjlbbkdnaaDoorTie
import Derived.Test.YtjppkpjlbbkdnaaDoorCards
import Derived.ProofKit
import Derived.LaidMore
import Derived.OpenShut
import Derived.Stop.Joined
import Derived.SevenTiedAt
namespace Go.Proofs.YtjppkpjlbbkdnaaDoor
open Go Go.Dv

open Go.ChangeShapes Go.WideShapes Go.ChangeAt Go.RowKit

def tt : List Nat := [27, 25, 3, 24, 22, 5, 9]
theorem plain : plainB Tryd.prog tt = true := by kernel_rfl
theorem own : ownKnob Tryd.prog.godebug = none := by kernel_rfl
theorem laidOut : laidOutB Tryd.prog = true := by kernel_rfl

/-! ### the table of the library -/
abbrev laidT : List (String × DataW Unit) := [("math/bits.deBruijn64tab", Rows.laid_math_bits_deBruijn64tab)]
theorem gTab : Tryd.prog.globalNamed "math/bits.deBruijn64tab" = some 0 := by kernel_rfl
theorem tTab : (Tryd.prog.globals[0]?).map (·.type) = some 102 := by kernel_rfl
theorem datum : (Rows.laid_math_bits_deBruijn64tab : DataW Unit) = .agg (Lib.deBruijn64tab.map fun n : Nat => .lit (.int .u8 (n : Int))) := by rfl

theorem door_met (os : Os) (args : Array Value) : laidMetH Tryd.prog laidT ((World.doorLaid Tryd.prog 400 os).forCall (fun _ _ => 0) ⟨#[], args, []⟩).memory :=
  laidMetH_of_parts3 (fuel := 8) (laidMet_of_run' 8 (by kernel_rfl) (by kernel_rfl)) (by kernel_rfl) (by kernel_rfl)

theorem tab_at {W : World} (h : laidMetH Tryd.prog laidT W) : ∀ b o v, tab.gm b o = some v → wmem W b o = some v := by
  intro b o v hv
  obtain ⟨rfl, hv2⟩ := tab_gm hv
  clear hv
  rw [MakeChecks.laidMetH_plain _ _ _ (by kernel_rfl)] at h
  obtain ⟨ps, ⟨g0, t0, cs0, f0, p0, q0, hg0, ht0, hv0, hd0, _⟩, _, _⟩ := h
  obtain rfl := Option.some.inj (gTab.symm.trans hg0)
  obtain rfl := Option.some.inj (tTab.symm.trans ht0)
  obtain ⟨xs, m1, rfl, hx1, hlen, hn3, hel⟩ := DataW.trod_array Tryd.underlying102 hd0
  have c5 : Tryd.prog.cellsOf 5 = 1 := by kernel_rfl
  rw [datum] at hx1
  simp only [Prod.mk.injEq, DataW.agg.injEq] at hx1
  rw [Option.map_eq_some_iff] at hv2
  obtain ⟨n, hn, rfl⟩ := hv2
  have ho : o < 64 := (List.getElem?_eq_some_iff.1 hn).1
  have hxo : xs[o]? = some (xs[o]'(by omega)) := List.getElem?_eq_getElem (by omega)
  have h1 : (xs[o]'(by omega)).1 = .lit (.int .u8 (n : Int)) := by
    have e := congrArg (fun l => l[o]?) hx1.1
    simp only [List.getElem?_map, hn, hxo, Option.map_some, Option.some.injEq] at e
    exact e.symm
  have h2 := hel o ho
  rw [hxo, c5] at h2
  obtain ⟨k, e1, e2, _⟩ := DataW.trod_int Tryd.underlying5 h2
  have hk : k = (n : Int) := by
    rw [e2] at h1
    simpa using h1
  subst hk
  have hc := World.var?_cell hg0 hv0 o
  show W.cell? ⟨0, o, none⟩ = _
  rw [hc]
  rw [Nat.mul_one] at e1
  have e3 : (cs0.toList.drop o)[0]? = some (.int .u8 (n : Int)) := by
    have := congrArg (fun l => l[0]?) e1
    simpa using this
  rw [List.getElem?_drop, Nat.add_zero, Array.getElem?_toList] at e3
  exact e3

set_option maxRecDepth 100000 in
theorem typed_u8 {y : V} (h : TypedV Tryd.prog 5 y) : ∃ b : Nat, b < 256 ∧ y = byteV b := by
  have h : Typed Tryd.prog 5 [y] := h
  have hu : Tryd.prog.underlying 5 = some (.int .u8) := by kernel_rfl
  generalize hy : [y] = l at h
  cases h with
  | int h n hw =>
    rw [hu] at h; cases h
    have : 0 ≤ n ∧ n ≤ 255 := by simpa [Lit.wf, IntKind.min, IntKind.max, IntKind.signed, IntKind.bits] using hw
    refine ⟨n.toNat, by omega, ?_⟩
    have e : y = .lit (.int .u8 n) := by simpa using hy
    rw [e, byteV, Int.toNat_of_nonneg this.1]
  | string h => rw [hu] at h; cases h
  | bool h => rw [hu] at h; cases h
  | slice h => rw [hu] at h; cases h
  | struct h => rw [hu] at h; cases h
  | array h => rw [hu] at h; cases h
set_option maxRecDepth 100000 in
theorem typed_string {y : V} (h : TypedV Tryd.prog 9 y) : ∃ s : ByteArray, y = strV s := by
  have h : Typed Tryd.prog 9 [y] := h
  have hu : Tryd.prog.underlying 9 = some .string := by kernel_rfl
  generalize hy : [y] = l at h
  cases h with
  | string _ s _ => exact ⟨s, by simpa [strV] using hy⟩
  | bool h => rw [hu] at h; cases h
  | int h => rw [hu] at h; cases h
  | slice h => rw [hu] at h; cases h
  | struct h => rw [hu] at h; cases h
  | array h => rw [hu] at h; cases h
set_option maxRecDepth 100000 in
theorem typed_w {y : V} (h : Typed Tryd.prog 22 [y]) : ∃ n : Nat, n < 2 ^ 64 ∧ y = word n := by
  have hu : Tryd.prog.underlying 22 = some (.int .u64) := by kernel_rfl
  generalize hy : [y] = l at h
  cases h with
  | int h n hw =>
    rw [hu] at h; cases h
    have : 0 ≤ n ∧ n ≤ 18446744073709551615 := by simpa [Lit.wf, IntKind.min, IntKind.max, IntKind.signed, IntKind.bits] using hw
    refine ⟨n.toNat, by omega, ?_⟩
    have e : y = .lit (.int .u64 n) := by simpa using hy
    rw [e, word, Int.toNat_of_nonneg this.1]
  | string h => rw [hu] at h; cases h
  | bool h => rw [hu] at h; cases h
  | slice h => rw [hu] at h; cases h
  | struct h => rw [hu] at h; cases h
  | array h => rw [hu] at h; cases h
set_option maxRecDepth 100000 in
theorem typed_words {cs : List V} (h : Typed Tryd.prog 24 cs) : ∃ W, isW W ∧ cs = W.map word := by
  have hu : Tryd.prog.underlying 24 = some (.array 4 22) := by kernel_rfl
  have hc : Tryd.prog.cellsOf 22 = 1 := by kernel_rfl
  cases h with
  | array h cs hl hr =>
    rw [hu] at h; cases h
    rw [hc] at hl hr
    match cs, hl with
    | [a, b, c, d], _ =>
      obtain ⟨w0, k0, rfl⟩ := typed_w (hr 0 (by omega))
      obtain ⟨w1, k1, rfl⟩ := typed_w (hr 1 (by omega))
      obtain ⟨w2, k2, rfl⟩ := typed_w (hr 2 (by omega))
      obtain ⟨w3, k3, rfl⟩ := typed_w (hr 3 (by omega))
      refine ⟨[w0, w1, w2, w3], ⟨rfl, fun i => ?_⟩, rfl⟩
      match i with
      | 0 => exact k0
      | 1 => exact k1
      | 2 => exact k2
      | 3 => exact k3
      | i + 4 => exact (by decide : (0 : Nat) < 2 ^ 64)
  | string h => rw [hu] at h; cases h
  | bool h => rw [hu] at h; cases h
  | int h => rw [hu] at h; cases h
  | slice h => rw [hu] at h; cases h
  | struct h => rw [hu] at h; cases h
theorem typed_set {y : V} (h : TypedV Tryd.prog 24 y) : ∃ W, isW W ∧ y = setV W := by
  obtain ⟨cs, rfl, k⟩ := (h : ∃ cs, y = .agg cs ∧ Typed Tryd.prog 24 cs)
  obtain ⟨W, hW, rfl⟩ := typed_words k
  exact ⟨W, hW, rfl⟩

theorem typed_rx' {y : V} (h : TypedV Tryd.prog 27 y) : ∃ r : Rx, r.wf maxLen ∧ y = rxV r := by
  obtain ⟨cs, rfl, h⟩ := (h : ∃ cs, y = .agg cs ∧ Typed Tryd.prog 27 cs)
  obtain ⟨r, hr, rfl⟩ := (typed_rx (tr := 27) (ts := 24) (tk := 25) (ti := 3) (tw := 22) Tryd.underlying27 Tryd.underlying25 Tryd.underlying3 Tryd.underlying24 Tryd.underlying22
    (by kernel_rfl) (by kernel_rfl) (by kernel_rfl) (by kernel_rfl) (by kernel_rfl) (by kernel_rfl) h).1 rfl
  exact ⟨r, hr, rfl⟩

end Go.Proofs.YtjppkpjlbbkdnaaDoor
