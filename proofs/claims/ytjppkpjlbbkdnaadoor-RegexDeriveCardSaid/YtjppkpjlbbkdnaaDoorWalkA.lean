/-
  What is proved here: the table of the program for the evaluator; what a set's function yields; the examples of the document, worked out by the kernel; validity and size of expressions. Conditions: those that stand at each theorem.
-/
import Derived.Test.YtjppkpjlbbkdnaaDoorEvE
import Derived.Test.YtjppkpjlbbkdnaaDoorRows
import Derived.RangeFuncLeaves
import Derived.WalkKit
import Derived.OwnWalkIn
import Derived.TacticsInMore
import Derived.LoopNIn
import Derived.LoopIn
import Derived.Shelf.Spec.TrailingZeros
import Derived.Shelf.Strings.OnBuilder
import Derived.Shelf.Lay

namespace Go.Proofs.YtjppkpjlbbkdnaaDoor
open Go Go.Dv Go.RowKit Go.Shelf

def laysTz_ren : Go.Shelf.Ren := ⟨fun | 29 => 78 | n => n, fun | 22 => 22 | 3 => 3 | 4 => 4 | 25 => 83 | 54 => 102 | 0 => 0 | 5 => 5 | n => n, fun | 1 => 0 | n => n⟩
theorem laysTz : Go.Proofs.Lays7.n29 Tryd.prog laysTz_ren := {
  mixed := by kernel_rfl
  f29 := Tryd.func78.trans (congrArg some (by kernel_rfl))
  t0 := Tryd.underlying0
  a0 := Tryd.isAgg0
  z0 := Tryd.sizeOf0
  v0 := Tryd.zeroValue0
  i0 := by kernel_rfl
  t3 := Tryd.underlying3
  a3 := Tryd.isAgg3
  z3 := Tryd.sizeOf3
  v3 := Tryd.zeroValue3
  i3 := by kernel_rfl
  t4 := Tryd.underlying4
  a4 := Tryd.isAgg4
  z4 := Tryd.sizeOf4
  v4 := Tryd.zeroValue4
  i4 := by kernel_rfl
  t5 := Tryd.underlying5
  a5 := Tryd.isAgg5
  z5 := Tryd.sizeOf5
  v5 := Tryd.zeroValue5
  i5 := by kernel_rfl
  t22 := Tryd.underlying22
  a22 := Tryd.isAgg22
  z22 := Tryd.sizeOf22
  v22 := Tryd.zeroValue22
  i22 := by kernel_rfl
  t25 := Tryd.underlying83
  a25 := Tryd.isAgg83
  z25 := Tryd.sizeOf83
  v25 := Tryd.zeroValue83
  i25 := by kernel_rfl
  t54 := Tryd.underlying102
  a54 := Tryd.isAgg102
  z54 := Tryd.sizeOf102
  g1 := by kernel_rfl }
theorem tz64 (x : Nat) (hx : x < 18446744073709551616) (w : World) (hT : x ≠ 0 → TabAt 0 Lib.deBruijn64tab w) :
    Calls Tryd.prog 78 #[.int .u64 x] w fun e w' => e = .returned (.int .i64 (Lib.ctz 64 x)) ∧ w' = w := Any7.bits_TrailingZeros64 laysTz x hx w hT

theorem idx0 (a b c d : Int) (w : World) : (Instr.index 24 (.agg #[.int .u64 a, .int .u64 b, .int .u64 c, .int .u64 d]) (.int .i64 0)).run Tryd.prog w = .ok (.int .u64 a) w := by kernel_rfl
theorem idx1 (a b c d : Int) (w : World) : (Instr.index 24 (.agg #[.int .u64 a, .int .u64 b, .int .u64 c, .int .u64 d]) (.int .i64 1)).run Tryd.prog w = .ok (.int .u64 b) w := by kernel_rfl
theorem idx2 (a b c d : Int) (w : World) : (Instr.index 24 (.agg #[.int .u64 a, .int .u64 b, .int .u64 c, .int .u64 d]) (.int .i64 2)).run Tryd.prog w = .ok (.int .u64 c) w := by kernel_rfl
theorem idx3 (a b c d : Int) (w : World) : (Instr.index 24 (.agg #[.int .u64 a, .int .u64 b, .int .u64 c, .int .u64 d]) (.int .i64 3)).run Tryd.prog w = .ok (.int .u64 d) w := by kernel_rfl



set_option maxRecDepth 100000 in
set_option maxHeartbeats 2000000 in
theorem iter_calls (l : Nat) (ad : Addr) (hsp : ad.spot = none) (ws : List Nat) (hl : ws.length = 4) (hw : ∀ w ∈ ws, w < 18446744073709551616) (J Jx : List Value → World → Prop) (W : World)
    (hc : ∀ (j w : Nat), ws[j]? = some w → W.cell? ⟨ad.block, ad.off + j, none⟩ = some (.int .u64 (w : Int)))
    (hJ : ∀ pre W1, J pre W1 → TabAt 0 Lib.deBruijn64tab W1)
    (hY : ∀ pre x W1, J pre W1 → (∃ post, pre ++ x :: post = (allBits ws 0).map u8V) → YieldAt Fence.wide 0 Tryd.prog l #[x] W1 fun e W' => (e = .returned (.bool true) ∧ J (pre ++ [x]) W') ∨ (e = .returned (.bool false) ∧ Jx (pre ++ [x]) W'))
    (h0 : J [] W) : CallsIn Fence.wide 0 Tryd.prog 77 #[.func (.yield l) #[] #[], .pointer (some ad)] W fun e W' => (∃ v, e = .returned v) ∧ (J ((allBits ws 0).map u8V) W' ∨ ∃ pre, Jx pre W') := by
  match ws, hl with
  | [a0, a1, a2, a3], _ =>
  obtain ⟨b, o, s⟩ := ad
  simp only at hsp
  subst hsp
  have c0 : W.cell? ⟨b, o, none⟩ = some (.int .u64 (a0 : Int)) := hc 0 a0 rfl
  have c1 := hc 1 a1 rfl
  have c2 := hc 2 a2 rfl
  have c3 := hc 3 a3 rfl
  simp only at c1 c2 c3
  refine callsIn_of_wp Tryd.func77 rfl trivial ?_ rfl
  simp only [Tryd.ntmps77, List.size_toArray, List.length_cons, List.length_nil, Nat.reduceAdd, Nat.reduceSub, Array.replicate_succ, Array.replicate_zero, List.push_toArray, List.append_toArray, List.nil_append, List.cons_append]
  gi_wp2
  gi_loopw [6] (fun i wr => ∃ k : Nat, k ≤ 4 ∧ i = .int .i64 k ∧ ∃ pre, J pre wr ∧ pre ++ (allBits ([a0, a1, a2, a3].drop k) k).map u8V = (allBits [a0, a1, a2, a3] 0).map u8V)
    (fun i _ => 4 - (intOf i).toNat)
  case atStart => exact ⟨0, Nat.zero_le _, rfl, [], h0, rfl⟩
  case round =>
    obtain ⟨k, hk, rfl, pre, hJs, hpre⟩ := hrel
    clear c0 c1 c2 c3 hc
    match k, hk with
    | 4, _ =>
      gi_wp2
      go_end0
      refine ⟨⟨_, rfl⟩, .inl ?_⟩
      have e : pre = (allBits [a0, a1, a2, a3] 0).map u8V := by rw [← hpre]; simp [allBits]
      rw [← e]; exact hJs
    | 0, _ =>
      have hlt : a0 < 18446744073709551616 := hw a0 (by simp)
      gi_wp2_with (simp only [idx0, idx1, idx2, idx3])
      gi_loopw [4] (fun v wr => ∃ x : Nat, x < 18446744073709551616 ∧ v = .int .u64 x ∧ ∃ pre, J pre wr ∧ pre ++ ((wbits x).map fun j => u8V (64 * 0 + j)) ++ (allBits ([a0, a1, a2, a3].drop 1) 1).map u8V = (allBits [a0, a1, a2, a3] 0).map u8V)
        (fun v _ => (intOf v).toNat)
      case atStart => exact ⟨a0, hlt, rfl, pre, hJs, by rw [List.append_assoc, ← hpre]; simp [allBits, List.map_map, Function.comp_def]⟩
      case round =>
        obtain ⟨x, hx, rfl, pre1, hJ1, hpre1⟩ := hrel
        by_cases hx0 : x = 0
        · subst hx0
          gi_wp2
          go_roundw
          case rel => exact ⟨1, by omega, rfl, pre1, hJ1, by rw [← hpre1]; simp [wbits_zero]⟩
          case measure => simp [intOf]
        · obtain ⟨hb1, hb2, hb3⟩ := wbits_step hx0 hx
          generalize hcz : Lib.ctz 64 x = c at hb1 hb2
          have hneq : ((x : Int) != 0) = true := by simp [hx0]
          rw [hb1, List.map_cons] at hpre1
          obtain ⟨fn, tmps, assign, body, hy, hR⟩ := hY pre1 (u8V (64 * 0 + c)) _ hJ1 ⟨_, by rw [← hpre1, List.append_assoc, List.cons_append]⟩
          have hT := hJ _ _ hJ1
          rw [show u8V (64 * 0 + c) = .int .u8 ((c : Int)) by simp [u8V]] at hy
          gi_wp2_with (refine ⟨trivial, rfl, ?_⟩; gi_at_call 78; refine (callsIn_wide.2 (tz64 x hx _ fun _ => hT)).mono ?_; rintro e w' ⟨rfl, rfl⟩)
          refine ⟨rfl, hR.mono ?_⟩
          rintro e W3 (⟨rfl, hJ3⟩ | ⟨rfl, hJx3⟩)
          · have hbw : bits .and .u64 (x : Int) ((x : Int) - 1) = ((x &&& (x - 1) : Nat) : Int) := by
              rw [show (x : Int) - 1 = ((x - 1 : Nat) : Int) by omega, bits_and_u64_nat x (x - 1) hx (by omega)]
            gi_wp2
            go_roundw
            case rel => exact ⟨x &&& (x - 1), by omega, rfl, _, hJ3, by rw [← hpre1]; simp⟩
            case measure => simp [intOf]; omega
          · gi_wp2
            refine bodyPost_ret (results_none rfl _ _ _) rfl ?_
            exact ⟨⟨_, rfl⟩, .inr ⟨_, hJx3⟩⟩
    | 1, _ =>
      have hlt : a1 < 18446744073709551616 := hw a1 (by simp)
      gi_wp2_with (simp only [idx0, idx1, idx2, idx3])
      gi_loopw [4] (fun v wr => ∃ x : Nat, x < 18446744073709551616 ∧ v = .int .u64 x ∧ ∃ pre, J pre wr ∧ pre ++ ((wbits x).map fun j => u8V (64 * 1 + j)) ++ (allBits ([a0, a1, a2, a3].drop 2) 2).map u8V = (allBits [a0, a1, a2, a3] 0).map u8V)
        (fun v _ => (intOf v).toNat)
      case atStart => exact ⟨a1, hlt, rfl, pre, hJs, by rw [List.append_assoc, ← hpre]; simp [allBits, List.map_map, Function.comp_def]⟩
      case round =>
        obtain ⟨x, hx, rfl, pre1, hJ1, hpre1⟩ := hrel
        by_cases hx0 : x = 0
        · subst hx0
          gi_wp2
          go_roundw
          case rel => exact ⟨2, by omega, rfl, pre1, hJ1, by rw [← hpre1]; simp [wbits_zero]⟩
          case measure => simp [intOf]
        · obtain ⟨hb1, hb2, hb3⟩ := wbits_step hx0 hx
          generalize hcz : Lib.ctz 64 x = c at hb1 hb2
          have hneq : ((x : Int) != 0) = true := by simp [hx0]
          rw [hb1, List.map_cons] at hpre1
          obtain ⟨fn, tmps, assign, body, hy, hR⟩ := hY pre1 (u8V (64 * 1 + c)) _ hJ1 ⟨_, by rw [← hpre1, List.append_assoc, List.cons_append]⟩
          have hT := hJ _ _ hJ1
          rw [show u8V (64 * 1 + c) = .int .u8 (64 + (c : Int)) by simp [u8V]] at hy
          gi_wp2_with (refine ⟨trivial, rfl, ?_⟩; gi_at_call 78; refine (callsIn_wide.2 (tz64 x hx _ fun _ => hT)).mono ?_; rintro e w' ⟨rfl, rfl⟩)
          refine ⟨rfl, hR.mono ?_⟩
          rintro e W3 (⟨rfl, hJ3⟩ | ⟨rfl, hJx3⟩)
          · have hbw : bits .and .u64 (x : Int) ((x : Int) - 1) = ((x &&& (x - 1) : Nat) : Int) := by
              rw [show (x : Int) - 1 = ((x - 1 : Nat) : Int) by omega, bits_and_u64_nat x (x - 1) hx (by omega)]
            gi_wp2
            go_roundw
            case rel => exact ⟨x &&& (x - 1), by omega, rfl, _, hJ3, by rw [← hpre1]; simp⟩
            case measure => simp [intOf]; omega
          · gi_wp2
            refine bodyPost_ret (results_none rfl _ _ _) rfl ?_
            exact ⟨⟨_, rfl⟩, .inr ⟨_, hJx3⟩⟩
    | 2, _ =>
      have hlt : a2 < 18446744073709551616 := hw a2 (by simp)
      gi_wp2_with (simp only [idx0, idx1, idx2, idx3])
      gi_loopw [4] (fun v wr => ∃ x : Nat, x < 18446744073709551616 ∧ v = .int .u64 x ∧ ∃ pre, J pre wr ∧ pre ++ ((wbits x).map fun j => u8V (64 * 2 + j)) ++ (allBits ([a0, a1, a2, a3].drop 3) 3).map u8V = (allBits [a0, a1, a2, a3] 0).map u8V)
        (fun v _ => (intOf v).toNat)
      case atStart => exact ⟨a2, hlt, rfl, pre, hJs, by rw [List.append_assoc, ← hpre]; simp [allBits, List.map_map, Function.comp_def]⟩
      case round =>
        obtain ⟨x, hx, rfl, pre1, hJ1, hpre1⟩ := hrel
        by_cases hx0 : x = 0
        · subst hx0
          gi_wp2
          go_roundw
          case rel => exact ⟨3, by omega, rfl, pre1, hJ1, by rw [← hpre1]; simp [wbits_zero]⟩
          case measure => simp [intOf]
        · obtain ⟨hb1, hb2, hb3⟩ := wbits_step hx0 hx
          generalize hcz : Lib.ctz 64 x = c at hb1 hb2
          have hneq : ((x : Int) != 0) = true := by simp [hx0]
          rw [hb1, List.map_cons] at hpre1
          obtain ⟨fn, tmps, assign, body, hy, hR⟩ := hY pre1 (u8V (64 * 2 + c)) _ hJ1 ⟨_, by rw [← hpre1, List.append_assoc, List.cons_append]⟩
          have hT := hJ _ _ hJ1
          rw [show u8V (64 * 2 + c) = .int .u8 (128 + (c : Int)) by simp [u8V]] at hy
          gi_wp2_with (refine ⟨trivial, rfl, ?_⟩; gi_at_call 78; refine (callsIn_wide.2 (tz64 x hx _ fun _ => hT)).mono ?_; rintro e w' ⟨rfl, rfl⟩)
          refine ⟨rfl, hR.mono ?_⟩
          rintro e W3 (⟨rfl, hJ3⟩ | ⟨rfl, hJx3⟩)
          · have hbw : bits .and .u64 (x : Int) ((x : Int) - 1) = ((x &&& (x - 1) : Nat) : Int) := by
              rw [show (x : Int) - 1 = ((x - 1 : Nat) : Int) by omega, bits_and_u64_nat x (x - 1) hx (by omega)]
            gi_wp2
            go_roundw
            case rel => exact ⟨x &&& (x - 1), by omega, rfl, _, hJ3, by rw [← hpre1]; simp⟩
            case measure => simp [intOf]; omega
          · gi_wp2
            refine bodyPost_ret (results_none rfl _ _ _) rfl ?_
            exact ⟨⟨_, rfl⟩, .inr ⟨_, hJx3⟩⟩
    | 3, _ =>
      have hlt : a3 < 18446744073709551616 := hw a3 (by simp)
      gi_wp2_with (simp only [idx0, idx1, idx2, idx3])
      gi_loopw [4] (fun v wr => ∃ x : Nat, x < 18446744073709551616 ∧ v = .int .u64 x ∧ ∃ pre, J pre wr ∧ pre ++ ((wbits x).map fun j => u8V (64 * 3 + j)) ++ (allBits ([a0, a1, a2, a3].drop 4) 4).map u8V = (allBits [a0, a1, a2, a3] 0).map u8V)
        (fun v _ => (intOf v).toNat)
      case atStart => exact ⟨a3, hlt, rfl, pre, hJs, by rw [List.append_assoc, ← hpre]; simp [allBits, List.map_map, Function.comp_def]⟩
      case round =>
        obtain ⟨x, hx, rfl, pre1, hJ1, hpre1⟩ := hrel
        by_cases hx0 : x = 0
        · subst hx0
          gi_wp2
          go_roundw
          case rel => exact ⟨4, by omega, rfl, pre1, hJ1, by rw [← hpre1]; simp [wbits_zero]⟩
          case measure => simp [intOf]
        · obtain ⟨hb1, hb2, hb3⟩ := wbits_step hx0 hx
          generalize hcz : Lib.ctz 64 x = c at hb1 hb2
          have hneq : ((x : Int) != 0) = true := by simp [hx0]
          rw [hb1, List.map_cons] at hpre1
          obtain ⟨fn, tmps, assign, body, hy, hR⟩ := hY pre1 (u8V (64 * 3 + c)) _ hJ1 ⟨_, by rw [← hpre1, List.append_assoc, List.cons_append]⟩
          have hT := hJ _ _ hJ1
          rw [show u8V (64 * 3 + c) = .int .u8 (192 + (c : Int)) by simp [u8V]] at hy
          gi_wp2_with (refine ⟨trivial, rfl, ?_⟩; gi_at_call 78; refine (callsIn_wide.2 (tz64 x hx _ fun _ => hT)).mono ?_; rintro e w' ⟨rfl, rfl⟩)
          refine ⟨rfl, hR.mono ?_⟩
          rintro e W3 (⟨rfl, hJ3⟩ | ⟨rfl, hJx3⟩)
          · have hbw : bits .and .u64 (x : Int) ((x : Int) - 1) = ((x &&& (x - 1) : Nat) : Int) := by
              rw [show (x : Int) - 1 = ((x - 1 : Nat) : Int) by omega, bits_and_u64_nat x (x - 1) hx (by omega)]
            gi_wp2
            go_roundw
            case rel => exact ⟨x &&& (x - 1), by omega, rfl, _, hJ3, by rw [← hpre1]; simp⟩
            case measure => simp [intOf]; omega
          · gi_wp2
            refine bodyPost_ret (results_none rfl _ _ _) rfl ?_
            exact ⟨⟨_, rfl⟩, .inr ⟨_, hJx3⟩⟩

end Go.Proofs.YtjppkpjlbbkdnaaDoor

namespace Go.Proofs.YtjppkpjlbbkdnaaDoor
open Go Go.Dv Go.RowKit Go.Shelf

noncomputable def tab0 : Lite := mkLite Tryd.prog [49] [(24, [1, 1, 1, 1])] [89]

theorem closed : closedB Tryd.prog = true := by kernel_rfl

theorem tab0Ok : LiteOk Tryd.prog tab0 := by
  refine mk_ok Tryd.checked.mixed closed ?_ ?_
  · intro t ks h xs ys us vs b w he h1 h2 l1 l2 r1 r2
    have guard : Tryd.prog.eqGuardType Tryd.prog.depth 24 = false := by kernel_rfl
    simp only [List.lookup] at h
    split at h
    · rename_i hh
      obtain rfl : t = 24 := by simpa using hh
      cases h
      exact ⟨equal_ints (n := 4) (i := Tryd.t22) Tryd.underlying24 Tryd.underlying22 Tryd.type22 rfl xs ys us vs b w he h1 h2 l1 l2 r1 r2, guard⟩
    · cases h
  · intro f hf
    obtain rfl : f = 89 := by simpa using hf
    exact ⟨Tryd.f89, Tryd.func89, by kernel_rfl, by kernel_rfl, by kernel_rfl, by kernel_rfl⟩

/-! ### strings.Join -/
def laysJn_ren : Go.Shelf.Ren := ⟨fun | 156 => 40 | 165 => 58 | 166 => 59 | 169 => 60 | 240 => 70 | 241 => 71 | 276 => 80 | 277 => 81 | n => n, fun | 31 => 58 | 9 => 9 | 3 => 3 | 4 => 4 | 0 => 0 | 20 => 20 | 72 => 75 | 76 => 79 | 70 => 73 | 37 => 39 | 75 => 78 | 127 => 89 | 164 => 94 | 5 => 5 | 80 => 81 | n => n, fun | n => n⟩
theorem laysJn : Go.Proofs.Lays.n156 Tryd.prog laysJn_ren := {
  mixed := by kernel_rfl
  f156 := Tryd.func40.trans (congrArg some (by kernel_rfl))
  f165 := Tryd.func58.trans (congrArg some (by kernel_rfl))
  f166 := Tryd.func59.trans (congrArg some (by kernel_rfl))
  f169 := Tryd.func60.trans (congrArg some (by kernel_rfl))
  f240 := Tryd.func70.trans (congrArg some (by kernel_rfl))
  f241 := Tryd.func71.trans (congrArg some (by kernel_rfl))
  f276 := Tryd.func80.trans (congrArg some (by kernel_rfl))
  f277 := Tryd.func81.trans (congrArg some (by kernel_rfl))
  t0 := Tryd.underlying0
  a0 := Tryd.isAgg0
  z0 := Tryd.sizeOf0
  v0 := Tryd.zeroValue0
  t3 := Tryd.underlying3
  a3 := Tryd.isAgg3
  z3 := Tryd.sizeOf3
  v3 := Tryd.zeroValue3
  t4 := Tryd.underlying4
  a4 := Tryd.isAgg4
  z4 := Tryd.sizeOf4
  v4 := Tryd.zeroValue4
  t9 := Tryd.underlying9
  a9 := Tryd.isAgg9
  z9 := Tryd.sizeOf9
  v9 := Tryd.zeroValue9
  t20 := Tryd.underlying20
  a20 := Tryd.isAgg20
  z20 := Tryd.sizeOf20
  v20 := Tryd.zeroValue20
  t31 := Tryd.underlying58
  a31 := Tryd.isAgg58
  z31 := Tryd.sizeOf58
  v31 := Tryd.zeroValue58
  t37 := Tryd.underlying39
  a37 := Tryd.isAgg39
  z37 := Tryd.sizeOf39
  v37 := Tryd.zeroValue39
  t70 := Tryd.underlying73
  a70 := Tryd.isAgg73
  z70 := Tryd.sizeOf73
  v70 := Tryd.zeroValue73
  t72 := Tryd.underlying75
  a72 := Tryd.isAgg75
  z72 := Tryd.sizeOf75
  v72 := Tryd.zeroValue75
  t75 := Tryd.underlying78
  a75 := Tryd.isAgg78
  z75 := Tryd.sizeOf78
  v75 := Tryd.zeroValue78
  t76 := Tryd.underlying79
  a76 := Tryd.isAgg79
  z76 := Tryd.sizeOf79
  v76 := Tryd.zeroValue79
  t127 := Tryd.underlying89
  a127 := Tryd.isAgg89
  z127 := Tryd.sizeOf89
  v127 := Tryd.zeroValue89
  t164 := Tryd.underlying94
  a164 := Tryd.isAgg94
  z164 := Tryd.sizeOf94
  v164 := Tryd.zeroValue94 }
theorem extraJn : Go.Proofs.Builder.Extra Tryd.prog laysJn_ren := {
  sizeBuilder := by kernel_rfl
  liesBuilder := by kernel_rfl
  t5 := Tryd.underlying5
  a5 := Tryd.isAgg5
  z5 := Tryd.sizeOf5
  v5 := Tryd.zeroValue5
  infoByte := by kernel_rfl
  cellsByte := by kernel_rfl
  sizeByte := by kernel_rfl
  neB5 := by decide }

/-! ### the whole table -/
noncomputable def tab : Lite := tab0.withIts [(68, (77, 4))] [40] (tabMem 0 Lib.deBruijn64tab)

theorem all_ev (cs : List V) (h : cs.length = 4) : ∃ ρ', evalCode { tab0 with gm := fun _ _ => none } (fun _ _ _ => none) 1 (Tryd.f68.body.getD .skip) (enterSt Tryd.f68 [.v (.agg cs)] []) = some (.ret, ρ') ∧ ρ'.sl 2 = .clo 77 [.addr 1 1 0] ∧ ρ'.ob 1 = .box 1 (cs.map .v) ∧ 1 < Tryd.f68.ntmps := by
  match cs, h with
  | [a, b, c, d], _ => exact ⟨((evalCode { tab0 with gm := fun _ _ => none } (fun _ _ _ => none) 1 (Tryd.f68.body.getD .skip) (enterSt Tryd.f68 [.v (.agg [a, b, c, d])] [])).getD (.ret, enterSt Tryd.f68 [] [])).2,
      by kernel_rfl, by kernel_rfl, by kernel_rfl, by decide⟩

theorem tabOk : LiteOk Tryd.prog tab := by
  refine tab0Ok.withIts _ _ _ ?_ ?_
  · intro g it h cs vs mu w hl hr hm
    simp only [List.lookup] at h
    split at h
    · rename_i hh
      obtain rfl : g = 68 := by simpa using hh
      cases h
      exact its_of tab0Ok (fn := Tryd.f68) (cd := Tryd.f68.body.getD .skip) (r := 2) (s := 1) (gn := 1) (n := 4) (by kernel_rfl) (by kernel_rfl) (by kernel_rfl) (by decide) all_ev cs vs mu w hl hr hm
    · cases h
  · intro f hf a n xs sep w h1 h2 h3 h4 h5 h6
    obtain rfl : f = 40 := by simpa using hf
    refine ⟨by kernel_rfl, ?_⟩
    cases a with
    | none =>
      obtain rfl := h1 rfl
      exact (Any.strings_Join_none laysJn extraJn none n sep w).mono fun e w' ⟨he, hw⟩ => ⟨by rw [hw]; exact ⟨rfl, rfl, rfl, Nat.le_refl _, fun _ _ _ => rfl⟩, by rw [he]; rfl⟩
    | some ad =>
      by_cases hx : xs = []
      · subst hx
        exact (Any.strings_Join_none laysJn extraJn (some ad) n sep w).mono fun e w' ⟨he, hw⟩ => ⟨by rw [hw]; exact ⟨rfl, rfl, rfl, Nat.le_refl _, fun _ _ _ => rfl⟩, by rw [he]; rfl⟩
      · obtain ⟨b, o, s⟩ := ad
        have hs : s = none := h2 _ rfl hx
        subst hs
        have hb : b < w.heap.size := by
          match xs, hx with
          | x :: r, _ =>
            exact cell_lt (h3 ⟨b, o, none⟩ 0 x rfl rfl)
        exact (Any.strings_Join laysJn extraJn b o n xs sep w (fun j x hj => h3 ⟨b, o, none⟩ j x rfl hj) hb h5 h4 h6).mono fun e w' ⟨he, hw⟩ => ⟨⟨hw.os, hw.tape, hw.output, hw.size, fun k hk _ => hw.block k hk⟩, he⟩

/-! ### the function over a set's elements -/
theorem tab_gm {b o : Nat} {v : Value} (h : tab.gm b o = some v) : b = 0 ∧ (Lib.deBruijn64tab[o]?).map u8V = some v := by
  have h : (if b = 0 then (Lib.deBruijn64tab[o]?).map u8V else none) = some v := h
  split at h
  · rename_i e; exact ⟨e, h⟩
  · cases h
theorem gm_tab {o n : Nat} (h : Lib.deBruijn64tab[o]? = some n) : tab.gm 0 o = some (u8V n) := by
  show (if 0 = 0 then (Lib.deBruijn64tab[o]?).map u8V else none) = _
  rw [if_pos rfl, h]; rfl

theorem itvOk : ItOk Tryd.prog tab (itvOf 77) := by
  intro g caps xs h G H lb w hl hr hnu
  unfold itvOf at h
  split at h
  · rename_i hg
    subst hg
    split at h
    · rename_i cs
      split at h
      · rename_i ws hws
        split at h
        · rename_i h4
          cases h
          obtain ⟨w1, w2, w3⟩ := wordsOf_spec hws
          match lb, hl with
          | [u], _ =>
            have hx := hr 0 (.ro cs) u rfl rfl
            cases hx with
            | @ro _ ad hf hs hh =>
              have hsp : ad.spot = none := hs (by intro e; rw [e, h4] at w1; cases w1)
              refine ⟨fun l J Jx W hb hJ hJx hg hY h0 => ?_, fun args w => ?_⟩
              · refine iter_calls l ad hsp ws h4 w2 J Jx W (fun j w hj => ?_) (fun pre W1 hj o ho => ?_) hY h0
                · obtain ⟨u, hu, hv⟩ := hh j _ (w3 j w hj)
                  cases hv
                  have hc := hnu _ _ _ hu
                  exact (hb.cell (p := ⟨ad.block, ad.off + j, none⟩) (cell_lt hc)).trans hc
                · have e : Lib.deBruijn64tab[o]? = some (Lib.deBruijn64tab.getD o 0) := by
                    rw [List.getD_eq_getElem?_getD, List.getElem?_eq_getElem ho]; rfl
                  exact hg pre W1 hj 0 o _ (gm_tab e)
              · have hnone : Tryd.f77.body.isNone = false := by kernel_rfl
                have h3 : (Tryd.f77.name == "runtime.NumGoroutine") = false := by kernel_rfl
                simp only [callFunc, Sem.run_bind, run_program, Result.andThen_ok, Tryd.func77, h3, hnone, Bool.false_eq_true, if_false]
                rfl
        · cases h
      · cases h
    · cases h
  · cases h

noncomputable def ext : Ext := bothExt tab (itvOf 77) [16] [54]
theorem extOk : ExtOk Tryd.prog tab ext := bothExt_ok tabOk itvOk [16] [54]
theorem extLe : ExtLe ext := bothExt_le tab (itvOf 77) [16] [54]
end Go.Proofs.YtjppkpjlbbkdnaaDoor

namespace Go.Proofs.YtjppkpjlbbkdnaaDoor
open Go Go.Dv

set_option maxRecDepth 100000 in
theorem ev13 : FnEv tab ext 13 [] [] (.ret [boolV true], []) := FnEv.work extLe 200 (by kernel_rfl)
end Go.Proofs.YtjppkpjlbbkdnaaDoor

namespace Go.Proofs.YtjppkpjlbbkdnaaDoor
open Go Go.Dv

/-- What the table holds of the types that are met. -/
def tb : Nat → Option TI
  | 83 => some { und := (.int .u64), size := 1, bytes := 8, kd := 1, zero := (some [(.v (.lit (.int .u64 ((0 : Nat) : Int))))]) }
  | 3 => some { und := (.int .i64), size := 1, bytes := 8, kd := 1, zero := (some [(.v (.lit (.int .i64 ((0 : Nat) : Int))))]) }
  | 4 => some { und := .bool, size := 1, bytes := 1, kd := 1, zero := (some [(.v (.lit (.bool false)))]) }
  | 5 => some { und := (.int .u8), size := 1, bytes := 1, kd := 1, zero := (some [(.v (.lit (.int .u8 ((0 : Nat) : Int))))]) }
  | 9 => some { und := .string, size := 1, bytes := 16, kd := 1, zero := (some [(.v (.lit (.string ⟨#[]⟩)))]) }
  | 22 => some { und := (.int .u64), size := 1, bytes := 8, kd := 1, zero := (some [(.v (.lit (.int .u64 ((0 : Nat) : Int))))]) }
  | 24 => some { und := (.array 4 22), size := 4, bytes := 32, kd := 2, zero := (some [(.v (.lit (.int .u64 ((0 : Nat) : Int)))), (.v (.lit (.int .u64 ((0 : Nat) : Int)))), (.v (.lit (.int .u64 ((0 : Nat) : Int)))), (.v (.lit (.int .u64 ((0 : Nat) : Int))))]) }
  | 25 => some { und := (.slice 27), size := 1, bytes := 24, kd := 1, zero := (some [(.nil 6)]) }
  | 27 => some { und := (.struct #[⟨"Kind", 3, 0, false, "", "", 0⟩, ⟨"Set", 24, 1, false, "", "", 8⟩, ⟨"Kids", 25, 5, false, "", "", 40⟩]), size := 6, bytes := 64, kd := 2, zero := (some [(.v (.lit (.int .i64 ((0 : Nat) : Int)))), (.v (.lit (.int .u64 ((0 : Nat) : Int)))), (.v (.lit (.int .u64 ((0 : Nat) : Int)))), (.v (.lit (.int .u64 ((0 : Nat) : Int)))), (.v (.lit (.int .u64 ((0 : Nat) : Int)))), (.nil 6)]) }
  | 39 => some { und := (.slice 5), size := 1, bytes := 24, kd := 1, zero := (some [(.nil 1)]) }
  | 56 => some { und := (.slice 3), size := 1, bytes := 24, kd := 1, zero := (some [(.nil 1)]) }
  | 58 => some { und := (.slice 9), size := 1, bytes := 24, kd := 1, zero := (some [(.nil 1)]) }
  | 62 => some { und := (.slice 4), size := 1, bytes := 24, kd := 1, zero := (some [(.nil 1)]) }
  | 48 => some { und := (.struct #[⟨"s", 9, 0, false, "", "emendate/regex", 0⟩, ⟨"at", 3, 1, false, "", "emendate/regex", 16⟩]), size := 2, bytes := 24, kd := 2, zero := (some [(.v (.lit (.string ⟨#[]⟩))), (.v (.lit (.int .i64 ((0 : Nat) : Int))))]) }
  | 52 => some { und := (.struct #[⟨"s", 9, 0, false, "", "emendate/emendateref08", 0⟩, ⟨"at", 3, 1, false, "", "emendate/emendateref08", 16⟩, ⟨"bad", 4, 2, false, "", "emendate/emendateref08", 24⟩]), size := 3, bytes := 32, kd := 2, zero := (some [(.v (.lit (.string ⟨#[]⟩))), (.v (.lit (.int .i64 ((0 : Nat) : Int)))), (.v (.lit (.bool false)))]) }
  | 31 => some { und := (.int .i64), size := 1, bytes := 8, kd := 1, zero := (some [(.v (.lit (.int .i64 ((0 : Nat) : Int))))]) }
  | 45 => some { und := (.int .i64), size := 1, bytes := 8, kd := 1, zero := (some [(.v (.lit (.int .i64 ((0 : Nat) : Int))))]) }
  | 86 => some { und := (.func #[43] #[] false), size := 1, bytes := 8, kd := 1, zero := (some [(.v (.lit .nilFunc))]) }
  | _ => .none
theorem hT {t : Nat} {T : TI} (h : tb t = some T) : tab.ti t = T := by
  unfold tb at h
  split at h <;> first | (cases h; done) | (cases h; kernel_rfl)
theorem fn67 : tab.fn.getD 67 .none = some Tryd.f67 := by kernel_rfl
theorem no67 : ext 67 = .none := by kernel_rfl
theorem fn85 : tab.fn.getD 85 .none = some Tryd.f85 := by kernel_rfl
theorem no85 : ext 85 = .none := by kernel_rfl
theorem fn44 : tab.fn.getD 44 .none = some Tryd.f44 := by kernel_rfl
theorem no44 : ext 44 = .none := by kernel_rfl
theorem fn91 : tab.fn.getD 91 .none = some Tryd.f91 := by kernel_rfl
theorem no91 : ext 91 = .none := by kernel_rfl
theorem fn57 : tab.fn.getD 57 .none = some Tryd.f57 := by kernel_rfl
theorem no57 : ext 57 = .none := by kernel_rfl
theorem fn13 : tab.fn.getD 13 .none = some Tryd.f13 := by kernel_rfl
theorem no13 : ext 13 = .none := by kernel_rfl
theorem fn19 : tab.fn.getD 19 .none = some Tryd.f19 := by kernel_rfl
theorem no19 : ext 19 = .none := by kernel_rfl
theorem fn27 : tab.fn.getD 27 .none = some Tryd.f27 := by kernel_rfl
theorem no27 : ext 27 = .none := by kernel_rfl
theorem fn3 : tab.fn.getD 3 .none = some Tryd.f3 := by kernel_rfl
theorem no3 : ext 3 = .none := by kernel_rfl
theorem fn4 : tab.fn.getD 4 .none = some Tryd.f4 := by kernel_rfl
theorem no4 : ext 4 = .none := by kernel_rfl
theorem fn5 : tab.fn.getD 5 .none = some Tryd.f5 := by kernel_rfl
theorem no5 : ext 5 = .none := by kernel_rfl
theorem fn6 : tab.fn.getD 6 .none = some Tryd.f6 := by kernel_rfl
theorem no6 : ext 6 = .none := by kernel_rfl
theorem fn7 : tab.fn.getD 7 .none = some Tryd.f7 := by kernel_rfl
theorem no7 : ext 7 = .none := by kernel_rfl
theorem fn8 : tab.fn.getD 8 .none = some Tryd.f8 := by kernel_rfl
theorem no8 : ext 8 = .none := by kernel_rfl
theorem fn9 : tab.fn.getD 9 .none = some Tryd.f9 := by kernel_rfl
theorem no9 : ext 9 = .none := by kernel_rfl
theorem fn10 : tab.fn.getD 10 .none = some Tryd.f10 := by kernel_rfl
theorem no10 : ext 10 = .none := by kernel_rfl
theorem fn11 : tab.fn.getD 11 .none = some Tryd.f11 := by kernel_rfl
theorem no11 : ext 11 = .none := by kernel_rfl
theorem fn14 : tab.fn.getD 14 .none = some Tryd.f14 := by kernel_rfl
theorem no14 : ext 14 = .none := by kernel_rfl
theorem fn21 : tab.fn.getD 21 .none = some Tryd.f21 := by kernel_rfl
theorem no21 : ext 21 = .none := by kernel_rfl
theorem fn23 : tab.fn.getD 23 .none = some Tryd.f23 := by kernel_rfl
theorem no23 : ext 23 = .none := by kernel_rfl
theorem fn25 : tab.fn.getD 25 .none = some Tryd.f25 := by kernel_rfl
theorem no25 : ext 25 = .none := by kernel_rfl
theorem fn26 : tab.fn.getD 26 .none = some Tryd.f26 := by kernel_rfl
theorem no26 : ext 26 = .none := by kernel_rfl
theorem fn29 : tab.fn.getD 29 .none = some Tryd.f29 := by kernel_rfl
theorem no29 : ext 29 = .none := by kernel_rfl
theorem fn31 : tab.fn.getD 31 .none = some Tryd.f31 := by kernel_rfl
theorem no31 : ext 31 = .none := by kernel_rfl
theorem fn38 : tab.fn.getD 38 .none = some Tryd.f38 := by kernel_rfl
theorem no38 : ext 38 = .none := by kernel_rfl
theorem fn39 : tab.fn.getD 39 .none = some Tryd.f39 := by kernel_rfl
theorem no39 : ext 39 = .none := by kernel_rfl
theorem fn45 : tab.fn.getD 45 .none = some Tryd.f45 := by kernel_rfl
theorem no45 : ext 45 = .none := by kernel_rfl
theorem fn46 : tab.fn.getD 46 .none = some Tryd.f46 := by kernel_rfl
theorem no46 : ext 46 = .none := by kernel_rfl
theorem fn49 : tab.fn.getD 49 .none = some Tryd.f49 := by kernel_rfl
theorem no49 : ext 49 = .none := by kernel_rfl
theorem fn53 : tab.fn.getD 53 .none = some Tryd.f53 := by kernel_rfl
theorem no53 : ext 53 = .none := by kernel_rfl
theorem fn55 : tab.fn.getD 55 .none = some Tryd.f55 := by kernel_rfl
theorem no55 : ext 55 = .none := by kernel_rfl
theorem fn56 : tab.fn.getD 56 .none = some Tryd.f56 := by kernel_rfl
theorem no56 : ext 56 = .none := by kernel_rfl
theorem fn64 : tab.fn.getD 64 .none = some Tryd.f64 := by kernel_rfl
theorem no64 : ext 64 = .none := by kernel_rfl
theorem fn94 : tab.fn.getD 94 .none = some Tryd.f94 := by kernel_rfl
theorem no94 : ext 94 = .none := by kernel_rfl
theorem fn32 : tab.fn.getD 32 .none = some Tryd.f32 := by kernel_rfl
theorem no32 : ext 32 = .none := by kernel_rfl
theorem fn33 : tab.fn.getD 33 .none = some Tryd.f33 := by kernel_rfl
theorem no33 : ext 33 = .none := by kernel_rfl
theorem fn47 : tab.fn.getD 47 .none = some Tryd.f47 := by kernel_rfl
theorem no47 : ext 47 = .none := by kernel_rfl
theorem fn48 : tab.fn.getD 48 .none = some Tryd.f48 := by kernel_rfl
theorem no48 : ext 48 = .none := by kernel_rfl
theorem fn65 : tab.fn.getD 65 .none = some Tryd.f65 := by kernel_rfl
theorem no65 : ext 65 = .none := by kernel_rfl
theorem fn74 : tab.fn.getD 74 .none = some Tryd.f74 := by kernel_rfl
theorem no74 : ext 74 = .none := by kernel_rfl
theorem fn82 : tab.fn.getD 82 .none = some Tryd.f82 := by kernel_rfl
theorem no82 : ext 82 = .none := by kernel_rfl
theorem fn83 : tab.fn.getD 83 .none = some Tryd.f83 := by kernel_rfl
theorem no83 : ext 83 = .none := by kernel_rfl
theorem fn84 : tab.fn.getD 84 .none = some Tryd.f84 := by kernel_rfl
theorem no84 : ext 84 = .none := by kernel_rfl
theorem fn90 : tab.fn.getD 90 .none = some Tryd.f90 := by kernel_rfl
theorem no90 : ext 90 = .none := by kernel_rfl
theorem fn92 : tab.fn.getD 92 .none = some Tryd.f92 := by kernel_rfl
theorem no92 : ext 92 = .none := by kernel_rfl
theorem fn12 : tab.fn.getD 12 .none = some Tryd.f12 := by kernel_rfl
theorem no12 : ext 12 = .none := by kernel_rfl
theorem fn15 : tab.fn.getD 15 .none = some Tryd.f15 := by kernel_rfl
theorem no15 : ext 15 = .none := by kernel_rfl
theorem fn17 : tab.fn.getD 17 .none = some Tryd.f17 := by kernel_rfl
theorem no17 : ext 17 = .none := by kernel_rfl
theorem fn18 : tab.fn.getD 18 .none = some Tryd.f18 := by kernel_rfl
theorem no18 : ext 18 = .none := by kernel_rfl
theorem fn20 : tab.fn.getD 20 .none = some Tryd.f20 := by kernel_rfl
theorem no20 : ext 20 = .none := by kernel_rfl
theorem fn22 : tab.fn.getD 22 .none = some Tryd.f22 := by kernel_rfl
theorem no22 : ext 22 = .none := by kernel_rfl
theorem fn24 : tab.fn.getD 24 .none = some Tryd.f24 := by kernel_rfl
theorem no24 : ext 24 = .none := by kernel_rfl
theorem fn28 : tab.fn.getD 28 .none = some Tryd.f28 := by kernel_rfl
theorem no28 : ext 28 = .none := by kernel_rfl
theorem fn30 : tab.fn.getD 30 .none = some Tryd.f30 := by kernel_rfl
theorem no30 : ext 30 = .none := by kernel_rfl
theorem fn35 : tab.fn.getD 35 .none = some Tryd.f35 := by kernel_rfl
theorem no35 : ext 35 = .none := by kernel_rfl
theorem fn36 : tab.fn.getD 36 .none = some Tryd.f36 := by kernel_rfl
theorem no36 : ext 36 = .none := by kernel_rfl
theorem fn37 : tab.fn.getD 37 .none = some Tryd.f37 := by kernel_rfl
theorem no37 : ext 37 = .none := by kernel_rfl
theorem fn41 : tab.fn.getD 41 .none = some Tryd.f41 := by kernel_rfl
theorem no41 : ext 41 = .none := by kernel_rfl
theorem fn42 : tab.fn.getD 42 .none = some Tryd.f42 := by kernel_rfl
theorem no42 : ext 42 = .none := by kernel_rfl
theorem fn43 : tab.fn.getD 43 .none = some Tryd.f43 := by kernel_rfl
theorem no43 : ext 43 = .none := by kernel_rfl
theorem fn52 : tab.fn.getD 52 .none = some Tryd.f52 := by kernel_rfl
theorem no52 : ext 52 = .none := by kernel_rfl
theorem fn61 : tab.fn.getD 61 .none = some Tryd.f61 := by kernel_rfl
theorem no61 : ext 61 = .none := by kernel_rfl
theorem fn62 : tab.fn.getD 62 .none = some Tryd.f62 := by kernel_rfl
theorem no62 : ext 62 = .none := by kernel_rfl
theorem fn63 : tab.fn.getD 63 .none = some Tryd.f63 := by kernel_rfl
theorem no63 : ext 63 = .none := by kernel_rfl
theorem fn72 : tab.fn.getD 72 .none = some Tryd.f72 := by kernel_rfl
theorem no72 : ext 72 = .none := by kernel_rfl
theorem fn73 : tab.fn.getD 73 .none = some Tryd.f73 := by kernel_rfl
theorem no73 : ext 73 = .none := by kernel_rfl
theorem fn76 : tab.fn.getD 76 .none = some Tryd.f76 := by kernel_rfl
theorem no76 : ext 76 = .none := by kernel_rfl
theorem fn87 : tab.fn.getD 87 .none = some Tryd.f87 := by kernel_rfl
theorem no87 : ext 87 = .none := by kernel_rfl
theorem fn93 : tab.fn.getD 93 .none = some Tryd.f93 := by kernel_rfl
theorem no93 : ext 93 = .none := by kernel_rfl
theorem fn34 : tab.fn.getD 34 .none = some Tryd.f34 := by kernel_rfl
theorem no34 : ext 34 = .none := by kernel_rfl
theorem fn50 : tab.fn.getD 50 .none = some Tryd.f50 := by kernel_rfl
theorem no50 : ext 50 = .none := by kernel_rfl
theorem fn51 : tab.fn.getD 51 .none = some Tryd.f51 := by kernel_rfl
theorem no51 : ext 51 = .none := by kernel_rfl
theorem fn66 : tab.fn.getD 66 .none = some Tryd.f66 := by kernel_rfl
theorem no66 : ext 66 = .none := by kernel_rfl
theorem fn75 : tab.fn.getD 75 .none = some Tryd.f75 := by kernel_rfl
theorem no75 : ext 75 = .none := by kernel_rfl
theorem fn86 : tab.fn.getD 86 .none = some Tryd.f86 := by kernel_rfl
theorem no86 : ext 86 = .none := by kernel_rfl
theorem fn88 : tab.fn.getD 88 .none = some Tryd.f88 := by kernel_rfl
theorem no88 : ext 88 = .none := by kernel_rfl
theorem fn68 : tab.fn.getD 68 .none = some Tryd.f68 := by kernel_rfl
theorem fn69 : tab.fn.getD 69 .none = some Tryd.f69 := by kernel_rfl
theorem no69 : ext 69 = .none := by kernel_rfl
theorem fn79 : tab.fn.getD 79 .none = some Tryd.f79 := by kernel_rfl
theorem no79 : ext 79 = .none := by kernel_rfl
set_option maxRecDepth 100000 in
theorem ev44 {W : List Nat} {b : Nat} (hb : b < 256) (hW : isW W) : FnEv tab ext 44 [.v (setV W), .v (byteV b)] [] (.ret [boolV (has W b)], []) := by
  refine fn_go _ no44 fn44 rfl rfl rfl ?_
  have hq : b / 64 < 4 := by omega
  have hw := hW.2 (b / 64)
  refine wC_seq (wC_reg ?_)
  refine wS_set rfl rfl rfl (a_box2 rfl (hT rfl) rfl (by rw [List.length_map, hW.1]) rfl) ?_
  refine wS_set rfl rfl rfl (a_assign rfl rfl) ?_
  refine wO_nil ?_
  refine wC_seq (wC_reg ?_)
  refine wS_set rfl rfl rfl (a_move rfl rfl) ?_
  refine wS_set rfl rfl rfl (n_quo (b := 64) rfl rfl (by omega) (by simp only [capN]; omega)) ?_
  refine wS_set rfl rfl rfl (n_indexAddrA rfl rfl (hT rfl) rfl (hT rfl) hq) ?_
  refine wS_set rfl rfl rfl (a_load1 rfl rfl (hT rfl) rfl (cell_get hW hq)) ?_
  refine wS_set rfl rfl rfl (a_move rfl rfl) ?_
  refine wS_set rfl rfl rfl (n_rem (b := 64) rfl rfl (by omega)) ?_
  refine wS_set rfl rfl rfl (n_shr rfl rfl (by simp only [IntKind.bits]; omega)) ?_
  refine wS_set rfl rfl rfl (n_and (b := 1) rfl rfl (cap64 (Nat.lt_of_le_of_lt (Nat.div_le_self _ _) hw)) (by simp only [capN]; omega)) ?_
  refine wS_set rfl rfl rfl (n_eql (b := 1) rfl rfl) ?_
  refine wS_set rfl rfl rfl (a_assign rfl rfl) ?_
  refine wO_nil ?_
  refine wC_ret ?_
  exact ⟨_, _, _, _, rfl, rfl, rfl⟩
theorem hasT {W : List Nat} {b : Nat} {p : Bool} (h : has W b = p) (hb : b < 256) (hW : isW W) : FnEv tab ext 44 [.v (setV W), .v (byteV b)] [] (.ret [boolV p], []) := h ▸ ev44 hb hW

end Go.Proofs.YtjppkpjlbbkdnaaDoor

namespace Go.Proofs.YtjppkpjlbbkdnaaDoor
open Go Go.Dv

set_option maxRecDepth 100000 in
theorem ev28 : ∀ (r : Rx), r.wf maxLen → ∀ (lv : Nat) (left : Int), lv ≤ 51 → -1 ≤ left ∧ left ≤ 1000 → FnEv tab ext 28 [.v (rxV r), .v (natV lv), .v (.lit (.int .i64 left))] [] (.ret [.lit (.int .i64 (shal r lv left))], []) := by
  intro r
  induction r using Rx.ind' with
  | h r ih =>
    intro hw lv left hlv hleft
    have hlen := hw.len
    simp only [maxLen] at hlen
    refine fn_go _ no28 fn28 rfl rfl rfl ?_
    by_cases hc : 50 < lv
    · rw [show shal r lv left = -1 by rw [shal_eq, if_pos (.inl hc)]]
      refine wC_seq ?_
      refine wC_reg ?_
      refine wS_set rfl rfl rfl (a_boxRx (by assumption) rfl (hT rfl) rfl rfl rfl) ?_
      refine wS_set rfl rfl rfl (a_assign rfl rfl) ?_
      refine wO_nil ?_
      refine wC_seq ?_
      refine wC_seq ?_
      refine wC_reg ?_
      refine wS_set rfl rfl rfl (a_move rfl rfl) ?_
      refine wS_set rfl rfl rfl (b_gtr (p := true) (b := 50) rfl rfl (decide_eq_true (by omega))) ?_
      refine wS_set rfl rfl rfl (a_move rfl rfl) ?_
      refine wS_skip rfl rfl rfl ?_
      refine wS_skip rfl rfl rfl ?_
      refine wS_set rfl rfl rfl (a_pickT rfl rfl) ?_
      refine wO_nil ?_
      refine wC_cond (p := true) rfl (fun _ => ?_) (fun hc => absurd hc (by decide))
      refine wC_seq ?_
      refine wC_reg ?_
      refine wS_set rfl rfl rfl (a_assign rfl rfl) ?_
      refine wO_nil ?_
      refine wC_ret ?_
      exact end_tmp rfl rfl
    · by_cases hc2 : left ≤ 0
      · rw [show shal r lv left = -1 by rw [shal_eq, if_pos (.inr hc2)]]
        refine wC_seq ?_
        refine wC_reg ?_
        refine wS_set rfl rfl rfl (a_boxRx (by assumption) rfl (hT rfl) rfl rfl rfl) ?_
        refine wS_set rfl rfl rfl (a_assign rfl rfl) ?_
        refine wO_nil ?_
        refine wC_seq ?_
        refine wC_seq ?_
        refine wC_reg ?_
        refine wS_set rfl rfl rfl (a_move rfl rfl) ?_
        refine wS_set rfl rfl rfl (b_gtr (p := false) (b := 50) rfl rfl (decide_eq_false (by omega))) ?_
        refine wS_set rfl rfl rfl (a_move rfl rfl) ?_
        refine wS_set rfl rfl rfl (a_move rfl rfl) ?_
        refine wS_set rfl rfl rfl (i_leq (p := true) rfl rfl (decide_eq_true (by omega))) ?_
        refine wS_set rfl rfl rfl (a_pickF rfl rfl) ?_
        refine wO_nil ?_
        refine wC_cond (p := true) rfl (fun _ => ?_) (fun hc => absurd hc (by decide))
        refine wC_seq ?_
        refine wC_reg ?_
        refine wS_set rfl rfl rfl (a_assign rfl rfl) ?_
        refine wO_nil ?_
        refine wC_ret ?_
        exact end_tmp rfl rfl
      · rw [show shal r lv left = shals (r.l.drop 0) lv (left - 1) by rw [shal_eq, if_neg (by omega), List.drop_zero]]
        refine wC_seq ?_
        refine wC_reg ?_
        refine wS_set rfl rfl rfl (a_boxRx (by assumption) rfl (hT rfl) rfl rfl rfl) ?_
        refine wS_set rfl rfl rfl (a_assign rfl rfl) ?_
        refine wO_nil ?_
        refine wC_seq ?_
        refine wC_seq ?_
        refine wC_reg ?_
        refine wS_set rfl rfl rfl (a_move rfl rfl) ?_
        refine wS_set rfl rfl rfl (b_gtr (p := false) (b := 50) rfl rfl (decide_eq_false (by omega))) ?_
        refine wS_set rfl rfl rfl (a_move rfl rfl) ?_
        refine wS_set rfl rfl rfl (a_move rfl rfl) ?_
        refine wS_set rfl rfl rfl (i_leq (p := false) rfl rfl (decide_eq_false (by omega))) ?_
        refine wS_set rfl rfl rfl (a_pickF rfl rfl) ?_
        refine wO_nil ?_
        refine wC_cond (p := false) rfl (fun hc => absurd hc (by decide)) (fun _ => ?_)
        refine wC_skip ?_
        refine wC_seq ?_
        refine wC_reg ?_
        refine wS_set rfl rfl rfl (a_move rfl rfl) ?_
        refine wS_set rfl rfl rfl (i_sub rfl rfl (by omega)) ?_
        refine wS_set rfl rfl rfl (a_assign rfl rfl) ?_
        refine wO_nil ?_
        refine wC_seq ?_
        refine wC_seq ?_
        refine wC_reg ?_
        refine wS_set rfl rfl rfl (a_assign rfl rfl) ?_
        refine wO_nil ?_
        refine wC_block ?_
        refine wC_loop (fun m ρ => ∃ (i : Nat) (lf : Int), i + m = r.l.length ∧ (-1 ≤ lf ∧ lf ≤ 1000) ∧ shals (r.l.drop 0) lv (left - 1) = shals (r.l.drop i) lv lf ∧
            PinSt 37 [(1, .v (natV lv)), (2, .v (.lit (.int .i64 lf))), (3, .addr 3 1 0), (7, natX .i64 i)] [(3, .box 1 (rxB r))] ρ) (fun m ρ hi => ?_) r.l.length
          ⟨0, left - 1, by omega, by omega, rfl, pinned_mk rfl ⟨rfl, rfl, rfl, rfl, trivial⟩ ⟨rfl, trivial⟩⟩
        obtain ⟨i, lf, hm, hlf, hsh, hi⟩ := hi
        replace hi := hi.form
        obtain ⟨g, h, rfl⟩ := hi
        by_cases hlt : i < r.l.length
        · have hget : r.l[i]? = some (r.l[i]'hlt) := List.getElem?_eq_getElem hlt
          by_cases h0 : 0 ≤ lf
          · have hwk : (r.l[i]'hlt).wf maxLen := hw.at hget
            obtain ⟨k1, k2⟩ := shal_le (r.l[i]'hlt) (lv + 1) lf
            refine wC_seq ?_
            refine wC_seq ?_
            refine wC_reg ?_
            refine wS_set rfl rfl rfl (a_move rfl rfl) ?_
            refine wS_set rfl rfl rfl (a_fieldAddrA rfl (hT rfl) rfl rfl (hT rfl) rfl) ?_
            refine wS_set rfl rfl rfl (a_loadKids (by assumption) rfl rfl (hT rfl) rfl) ?_
            refine wS_set rfl rfl rfl (a_lenK rfl rfl (hT rfl) rfl) ?_
            refine wS_set rfl rfl rfl (b_lss (p := true) rfl rfl (decide_eq_true (by omega))) ?_
            refine wS_set rfl rfl rfl (a_move rfl rfl) ?_
            refine wS_set rfl rfl rfl (a_move rfl rfl) ?_
            refine wS_set rfl rfl rfl (i_geq (p := true) rfl rfl (decide_eq_true (by omega))) ?_
            refine wS_set rfl rfl rfl (a_pickT rfl rfl) ?_
            refine wO_nil ?_
            refine wC_cond (p := true) rfl (fun _ => ?_) (fun hc => absurd hc (by decide))
            refine wC_skip ?_
            refine wC_seq ?_
            refine wC_block ?_
            refine wC_reg ?_
            refine wS_set rfl rfl rfl (a_fieldAddrA rfl (hT rfl) rfl rfl (hT rfl) rfl) ?_
            refine wS_set rfl rfl rfl (a_loadKids (by assumption) rfl rfl (hT rfl) rfl) ?_
            refine wS_set rfl rfl rfl (a_move rfl rfl) ?_
            refine wS_set rfl rfl rfl (n_kid hget rfl rfl (hT rfl) rfl (hT rfl) rfl) ?_
            refine wS_set rfl rfl rfl (a_loadRxR (by assumption) rfl (hT rfl) rfl rfl) ?_
            refine wS_set rfl rfl rfl (a_move rfl rfl) ?_
            refine wS_set rfl rfl rfl (n_add (b := 1) rfl rfl (by simp only [capN]; omega)) ?_
            refine wS_set rfl rfl rfl (a_move rfl rfl) ?_
            refine wS_set rfl rfl rfl (a_call rfl rfl fn28 rfl rfl (ih _ (List.getElem_mem hlt) hwk _ _ (by omega) (by omega))) ?_
            refine wS_set rfl rfl rfl (a_assign rfl rfl) ?_
            refine wO_nil ?_
            refine wC_reg ?_
            refine wS_set rfl rfl rfl (a_move rfl rfl) ?_
            refine wS_set rfl rfl rfl (n_add (b := 1) rfl rfl (by simp only [capN]; omega)) ?_
            refine wS_set rfl rfl rfl (a_assign rfl rfl) ?_
            refine wO_nil ?_
            exact ⟨m - 1, by omega, i + 1, shal (r.l[i]'hlt) (lv + 1) lf, by omega, by omega, by rw [hsh]; exact shals_step hget h0, pinned_mk rfl ⟨rfl, rfl, rfl, rfl, trivial⟩ ⟨rfl, trivial⟩⟩
          · rw [hsh, shals_neg (by omega)]
            refine wC_seq ?_
            refine wC_seq ?_
            refine wC_reg ?_
            refine wS_set rfl rfl rfl (a_move rfl rfl) ?_
            refine wS_set rfl rfl rfl (a_fieldAddrA rfl (hT rfl) rfl rfl (hT rfl) rfl) ?_
            refine wS_set rfl rfl rfl (a_loadKids (by assumption) rfl rfl (hT rfl) rfl) ?_
            refine wS_set rfl rfl rfl (a_lenK rfl rfl (hT rfl) rfl) ?_
            refine wS_set rfl rfl rfl (b_lss (p := true) rfl rfl (decide_eq_true (by omega))) ?_
            refine wS_set rfl rfl rfl (a_move rfl rfl) ?_
            refine wS_set rfl rfl rfl (a_move rfl rfl) ?_
            refine wS_set rfl rfl rfl (i_geq (p := false) rfl rfl (decide_eq_false (by omega))) ?_
            refine wS_set rfl rfl rfl (a_pickT rfl rfl) ?_
            refine wO_nil ?_
            refine wC_cond (p := false) rfl (fun hc => absurd hc (by decide)) (fun _ => ?_)
            refine wC_exit ?_
            refine wC_seq ?_
            refine wC_reg ?_
            refine wS_set rfl rfl rfl (a_move rfl rfl) ?_
            refine wS_set rfl rfl rfl (a_assign rfl rfl) ?_
            refine wO_nil ?_
            refine wC_ret ?_
            exact end_tmp rfl rfl
        · obtain rfl : i = r.l.length := by omega
          rw [hsh, List.drop_eq_nil_of_le (Nat.le_refl _), shals]
          refine wC_seq ?_
          refine wC_seq ?_
          refine wC_reg ?_
          refine wS_set rfl rfl rfl (a_move rfl rfl) ?_
          refine wS_set rfl rfl rfl (a_fieldAddrA rfl (hT rfl) rfl rfl (hT rfl) rfl) ?_
          refine wS_set rfl rfl rfl (a_loadKids (by assumption) rfl rfl (hT rfl) rfl) ?_
          refine wS_set rfl rfl rfl (a_lenK rfl rfl (hT rfl) rfl) ?_
          refine wS_set rfl rfl rfl (b_lss (p := false) rfl rfl (decide_eq_false (by omega))) ?_
          refine wS_set rfl rfl rfl (a_move rfl rfl) ?_
          refine wS_skip rfl rfl rfl ?_
          refine wS_skip rfl rfl rfl ?_
          refine wS_set rfl rfl rfl (a_pickF rfl rfl) ?_
          refine wO_nil ?_
          refine wC_cond (p := false) rfl (fun hc => absurd hc (by decide)) (fun _ => ?_)
          refine wC_exit ?_
          refine wC_seq ?_
          refine wC_reg ?_
          refine wS_set rfl rfl rfl (a_move rfl rfl) ?_
          refine wS_set rfl rfl rfl (a_assign rfl rfl) ?_
          refine wO_nil ?_
          refine wC_ret ?_
          exact end_tmp rfl rfl

set_option maxRecDepth 100000 in
theorem ev29 : ∀ (r : Rx), r.wf maxLen → ∀ (d : Nat), d ≤ 30 → FnEv tab ext 29 [.v (rxV r), .v (natV d)] [] (.ret [boolV (validP r d)], []) := by
  intro r
  induction r using Rx.ind' with
  | h r ih =>
    intro hw d hd
    have hlen := hw.len
    simp only [maxLen] at hlen
    refine fn_go _ no29 fn29 rfl rfl rfl ?_
    by_cases h0 : d = 0
    · subst h0
      rw [show validP r 0 = false by rw [validP_eq, if_pos rfl]]
      refine wC_seq ?_
      refine wC_reg ?_
      refine wS_set rfl rfl rfl (a_boxRx (by assumption) rfl (hT rfl) rfl rfl rfl) ?_
      refine wS_set rfl rfl rfl (a_assign rfl rfl) ?_
      refine wO_nil ?_
      refine wC_seq ?_
      refine wC_seq ?_
      refine wC_regD (by kernel_rfl) ?_
      refine wS_set rfl rfl rfl (a_move rfl rfl) ?_
      refine wS_set rfl rfl rfl (b_eql (p := true) (a := 0) (b := 0) rfl rfl (decide_eq_true (by omega))) ?_
      refine wS_set rfl rfl rfl (a_move rfl rfl) ?_
      refine wS_skip rfl rfl rfl ?_
      refine wS_skip rfl rfl rfl ?_
      refine wS_skip rfl rfl rfl ?_
      refine wS_skip rfl rfl rfl ?_
      refine wS_skip rfl rfl rfl ?_
      refine wS_skip rfl rfl rfl ?_
      refine wS_skip rfl rfl rfl ?_
      refine wS_skip rfl rfl rfl ?_
      refine wS_set rfl rfl rfl (a_pickT rfl rfl) ?_
      refine wO_nil ⟨rfl, by kernel_rfl, ?_⟩
      refine wC_cond (p := true) rfl (fun _ => ?_) (fun hc => absurd hc (by decide))
      refine wC_seq ?_
      refine wC_reg ?_
      refine wS_set rfl rfl rfl (a_assign rfl rfl) ?_
      refine wO_nil ?_
      refine wC_ret ?_
      exact end_tmp rfl rfl
    · rw [validP_eq, if_neg h0]
      by_cases he : decide (r.k = 3) = decide (r.s = zeroW)
      · rw [if_pos he]
        refine wC_seq ?_
        refine wC_reg ?_
        refine wS_set rfl rfl rfl (a_boxRx (by assumption) rfl (hT rfl) rfl rfl rfl) ?_
        refine wS_set rfl rfl rfl (a_assign rfl rfl) ?_
        refine wO_nil ?_
        refine wC_seq ?_
        refine wC_seq ?_
        refine wC_regD (by kernel_rfl) ?_
        refine wS_set rfl rfl rfl (a_move rfl rfl) ?_
        refine wS_set rfl rfl rfl (b_eql (p := false) (b := 0) rfl rfl (decide_eq_false (by omega))) ?_
        refine wS_set rfl rfl rfl (a_move rfl rfl) ?_
        refine wS_set rfl rfl rfl (a_fieldAddrA rfl (hT rfl) rfl rfl (hT rfl) rfl) ?_
        refine wS_set rfl rfl rfl (a_loadK rfl rfl (hT rfl) rfl) ?_
        refine wS_set rfl rfl rfl (i_eql rfl rfl rfl) ?_
        refine wS_set rfl rfl rfl (a_fieldAddrA rfl (hT rfl) rfl rfl (hT rfl) rfl) ?_
        refine wS_set rfl rfl rfl (a_loadSet (by assumption) rfl rfl (hT rfl) rfl rfl) ?_
        refine wS_set rfl rfl rfl (a_build0 (hT rfl) rfl rfl rfl rfl) ?_
        refine wS_set rfl rfl rfl (a_eqSet hw.set isW_zero rfl rfl rfl rfl) ?_
        refine wS_set rfl rfl rfl (a_binBe (p := true) rfl rfl (hT rfl) rfl (by simpa using he)) ?_
        refine wS_set rfl rfl rfl (a_pickF rfl rfl) ?_
        refine wO_nil ⟨rfl, by kernel_rfl, ?_⟩
        refine wC_cond (p := true) rfl (fun _ => ?_) (fun hc => absurd hc (by decide))
        refine wC_seq ?_
        refine wC_reg ?_
        refine wS_set rfl rfl rfl (a_assign rfl rfl) ?_
        refine wO_nil ?_
        refine wC_ret ?_
        exact end_tmp rfl rfl
      · rw [if_neg he]
        cases hl : lims r.k r.l.length with
        | none =>
          obtain ⟨k1, k2, k3, k4, k5, k6⟩ := lims_none hl
          refine wC_seq ?_
          refine wC_reg ?_
          refine wS_set rfl rfl rfl (a_boxRx (by assumption) rfl (hT rfl) rfl rfl rfl) ?_
          refine wS_set rfl rfl rfl (a_assign rfl rfl) ?_
          refine wO_nil ?_
          refine wC_seq ?_
          refine wC_seq ?_
          refine wC_regD (by kernel_rfl) ?_
          refine wS_set rfl rfl rfl (a_move rfl rfl) ?_
          refine wS_set rfl rfl rfl (b_eql (p := false) (b := 0) rfl rfl (decide_eq_false (by omega))) ?_
          refine wS_set rfl rfl rfl (a_move rfl rfl) ?_
          refine wS_set rfl rfl rfl (a_fieldAddrA rfl (hT rfl) rfl rfl (hT rfl) rfl) ?_
          refine wS_set rfl rfl rfl (a_loadK rfl rfl (hT rfl) rfl) ?_
          refine wS_set rfl rfl rfl (i_eql rfl rfl rfl) ?_
          refine wS_set rfl rfl rfl (a_fieldAddrA rfl (hT rfl) rfl rfl (hT rfl) rfl) ?_
          refine wS_set rfl rfl rfl (a_loadSet (by assumption) rfl rfl (hT rfl) rfl rfl) ?_
          refine wS_set rfl rfl rfl (a_build0 (hT rfl) rfl rfl rfl rfl) ?_
          refine wS_set rfl rfl rfl (a_eqSet hw.set isW_zero rfl rfl rfl rfl) ?_
          refine wS_set rfl rfl rfl (a_binBe (p := false) rfl rfl (hT rfl) rfl (by simpa using he)) ?_
          refine wS_set rfl rfl rfl (a_pickF rfl rfl) ?_
          refine wO_nil ⟨rfl, by kernel_rfl, ?_⟩
          refine wC_cond (p := false) rfl (fun hc => absurd hc (by decide)) (fun _ => ?_)
          refine wC_skip ?_
          refine wC_seq ?_
          refine wC_reg ?_
          refine wS_set rfl rfl rfl (a_assign rfl rfl) ?_
          refine wS_set rfl rfl rfl (a_assign rfl rfl) ?_
          refine wO_nil ?_
          refine wC_seq ?_
          refine wC_seq ?_
          refine wC_reg ?_
          refine wS_set rfl rfl rfl (a_fieldAddrA rfl (hT rfl) rfl rfl (hT rfl) rfl) ?_
          refine wS_set rfl rfl rfl (a_loadK rfl rfl (hT rfl) rfl) ?_
          refine wO_nil ?_
          refine wC_block ?_
          refine wC_seq ?_
          refine wC_seq ?_
          refine wC_reg ?_
          refine wS_set rfl rfl rfl (i_eql (p := false) rfl rfl (decide_eq_false (by omega))) ?_
          refine wS_set rfl rfl rfl (a_assign rfl rfl) ?_
          refine wO_nil ?_
          refine wC_cond (p := false) rfl (fun hc => absurd hc (by decide)) (fun _ => ?_)
          refine wC_seq ?_
          refine wC_reg ?_
          refine wS_set rfl rfl rfl (i_eql (p := false) rfl rfl (decide_eq_false (by omega))) ?_
          refine wS_set rfl rfl rfl (a_assign rfl rfl) ?_
          refine wO_nil ?_
          refine wC_cond (p := false) rfl (fun hc => absurd hc (by decide)) (fun _ => ?_)
          refine wC_reg ?_
          refine wS_set rfl rfl rfl (i_eql (p := false) rfl rfl (decide_eq_false (by omega))) ?_
          refine wS_set rfl rfl rfl (a_assign rfl rfl) ?_
          refine wO_nil ?_
          refine wC_cond (p := false) rfl (fun hc => absurd hc (by decide)) (fun _ => ?_)
          refine wC_seq ?_
          refine wC_seq ?_
          refine wC_reg ?_
          refine wS_set rfl rfl rfl (i_eql (p := false) rfl rfl (decide_eq_false (by omega))) ?_
          refine wS_set rfl rfl rfl (a_assign rfl rfl) ?_
          refine wO_nil ?_
          refine wC_cond (p := false) rfl (fun hc => absurd hc (by decide)) (fun _ => ?_)
          refine wC_reg ?_
          refine wS_set rfl rfl rfl (i_eql (p := false) rfl rfl (decide_eq_false (by omega))) ?_
          refine wS_set rfl rfl rfl (a_assign rfl rfl) ?_
          refine wO_nil ?_
          refine wC_cond (p := false) rfl (fun hc => absurd hc (by decide)) (fun _ => ?_)
          refine wC_seq ?_
          refine wC_reg ?_
          refine wS_set rfl rfl rfl (i_eql (p := false) rfl rfl (decide_eq_false (by omega))) ?_
          refine wS_set rfl rfl rfl (a_assign rfl rfl) ?_
          refine wO_nil ?_
          refine wC_cond (p := false) rfl (fun hc => absurd hc (by decide)) (fun _ => ?_)
          refine wC_seq ?_
          refine wC_reg ?_
          refine wS_set rfl rfl rfl (a_assign rfl rfl) ?_
          refine wO_nil ?_
          refine wC_ret ?_
          exact end_tmp rfl rfl
        | some p =>
          obtain ⟨lo, up⟩ := p
          refine wC_seq ?_
          refine wC_reg ?_
          refine wS_set rfl rfl rfl (a_boxRx (by assumption) rfl (hT rfl) rfl rfl rfl) ?_
          refine wS_set rfl rfl rfl (a_assign rfl rfl) ?_
          refine wO_nil ?_
          refine wC_seq ?_
          refine wC_seq ?_
          refine wC_regD (by kernel_rfl) ?_
          refine wS_set rfl rfl rfl (a_move rfl rfl) ?_
          refine wS_set rfl rfl rfl (b_eql (p := false) (b := 0) rfl rfl (decide_eq_false (by omega))) ?_
          refine wS_set rfl rfl rfl (a_move rfl rfl) ?_
          refine wS_set rfl rfl rfl (a_fieldAddrA rfl (hT rfl) rfl rfl (hT rfl) rfl) ?_
          refine wS_set rfl rfl rfl (a_loadK rfl rfl (hT rfl) rfl) ?_
          refine wS_set rfl rfl rfl (i_eql rfl rfl rfl) ?_
          refine wS_set rfl rfl rfl (a_fieldAddrA rfl (hT rfl) rfl rfl (hT rfl) rfl) ?_
          refine wS_set rfl rfl rfl (a_loadSet (by assumption) rfl rfl (hT rfl) rfl rfl) ?_
          refine wS_set rfl rfl rfl (a_build0 (hT rfl) rfl rfl rfl rfl) ?_
          refine wS_set rfl rfl rfl (a_eqSet hw.set isW_zero rfl rfl rfl rfl) ?_
          refine wS_set rfl rfl rfl (a_binBe (p := false) rfl rfl (hT rfl) rfl (by simpa using he)) ?_
          refine wS_set rfl rfl rfl (a_pickF rfl rfl) ?_
          refine wO_nil ⟨rfl, by kernel_rfl, ?_⟩
          refine wC_cond (p := false) rfl (fun hc => absurd hc (by decide)) (fun _ => ?_)
          refine wC_skip ?_
          refine wC_seq ?_
          refine wC_reg ?_
          refine wS_set rfl rfl rfl (a_assign rfl rfl) ?_
          refine wS_set rfl rfl rfl (a_assign rfl rfl) ?_
          refine wO_nil ?_
          refine wC_seq ?_
          refine wC_seq ?_
          refine wC_reg ?_
          refine wS_set rfl rfl rfl (a_fieldAddrA rfl (hT rfl) rfl rfl (hT rfl) rfl) ?_
          refine wS_set rfl rfl rfl (a_loadK rfl rfl (hT rfl) rfl) ?_
          refine wO_nil ?_
          refine wC_blockI (fun ρ => PinSt 60 [(1, .v (natV d)), (2, .addr 2 1 0), (5, natX .i64 lo), (6, natX .i64 up)] [(2, .box 1 (rxB r))] ρ) ?_ (fun ρ hi => ?_)
          · rcases lims_some hl with ⟨hk | hk | hk, rfl, rfl⟩ | ⟨hk | hk, rfl, rfl⟩ | ⟨hk, rfl, rfl⟩
            · refine wC_seq ?_
              refine wC_seq ?_
              refine wC_reg ?_
              refine wS_set rfl rfl rfl (i_eql (p := true) rfl rfl (decide_eq_true (by omega))) ?_
              refine wS_set rfl rfl rfl (a_assign rfl rfl) ?_
              refine wO_nil ?_
              refine wC_cond (p := true) rfl (fun _ => ?_) (fun hc => absurd hc (by decide))
              refine wC_skip ?_
              refine wC_cond (p := true) rfl (fun _ => ?_) (fun hc => absurd hc (by decide))
              refine wC_skip ?_
              exact pinned_mk rfl ⟨rfl, rfl, rfl, rfl, trivial⟩ ⟨rfl, trivial⟩
            · refine wC_seq ?_
              refine wC_seq ?_
              refine wC_reg ?_
              refine wS_set rfl rfl rfl (i_eql (p := false) rfl rfl (decide_eq_false (by omega))) ?_
              refine wS_set rfl rfl rfl (a_assign rfl rfl) ?_
              refine wO_nil ?_
              refine wC_cond (p := false) rfl (fun hc => absurd hc (by decide)) (fun _ => ?_)
              refine wC_seq ?_
              refine wC_reg ?_
              refine wS_set rfl rfl rfl (i_eql (p := true) rfl rfl (decide_eq_true (by omega))) ?_
              refine wS_set rfl rfl rfl (a_assign rfl rfl) ?_
              refine wO_nil ?_
              refine wC_cond (p := true) rfl (fun _ => ?_) (fun hc => absurd hc (by decide))
              refine wC_skip ?_
              refine wC_cond (p := true) rfl (fun _ => ?_) (fun hc => absurd hc (by decide))
              refine wC_skip ?_
              exact pinned_mk rfl ⟨rfl, rfl, rfl, rfl, trivial⟩ ⟨rfl, trivial⟩
            · refine wC_seq ?_
              refine wC_seq ?_
              refine wC_reg ?_
              refine wS_set rfl rfl rfl (i_eql (p := false) rfl rfl (decide_eq_false (by omega))) ?_
              refine wS_set rfl rfl rfl (a_assign rfl rfl) ?_
              refine wO_nil ?_
              refine wC_cond (p := false) rfl (fun hc => absurd hc (by decide)) (fun _ => ?_)
              refine wC_seq ?_
              refine wC_reg ?_
              refine wS_set rfl rfl rfl (i_eql (p := false) rfl rfl (decide_eq_false (by omega))) ?_
              refine wS_set rfl rfl rfl (a_assign rfl rfl) ?_
              refine wO_nil ?_
              refine wC_cond (p := false) rfl (fun hc => absurd hc (by decide)) (fun _ => ?_)
              refine wC_reg ?_
              refine wS_set rfl rfl rfl (i_eql (p := true) rfl rfl (decide_eq_true (by omega))) ?_
              refine wS_set rfl rfl rfl (a_assign rfl rfl) ?_
              refine wO_nil ?_
              refine wC_cond (p := true) rfl (fun _ => ?_) (fun hc => absurd hc (by decide))
              refine wC_skip ?_
              exact pinned_mk rfl ⟨rfl, rfl, rfl, rfl, trivial⟩ ⟨rfl, trivial⟩
            · refine wC_seq ?_
              refine wC_seq ?_
              refine wC_reg ?_
              refine wS_set rfl rfl rfl (i_eql (p := false) rfl rfl (decide_eq_false (by omega))) ?_
              refine wS_set rfl rfl rfl (a_assign rfl rfl) ?_
              refine wO_nil ?_
              refine wC_cond (p := false) rfl (fun hc => absurd hc (by decide)) (fun _ => ?_)
              refine wC_seq ?_
              refine wC_reg ?_
              refine wS_set rfl rfl rfl (i_eql (p := false) rfl rfl (decide_eq_false (by omega))) ?_
              refine wS_set rfl rfl rfl (a_assign rfl rfl) ?_
              refine wO_nil ?_
              refine wC_cond (p := false) rfl (fun hc => absurd hc (by decide)) (fun _ => ?_)
              refine wC_reg ?_
              refine wS_set rfl rfl rfl (i_eql (p := false) rfl rfl (decide_eq_false (by omega))) ?_
              refine wS_set rfl rfl rfl (a_assign rfl rfl) ?_
              refine wO_nil ?_
              refine wC_cond (p := false) rfl (fun hc => absurd hc (by decide)) (fun _ => ?_)
              refine wC_seq ?_
              refine wC_seq ?_
              refine wC_reg ?_
              refine wS_set rfl rfl rfl (i_eql (p := true) rfl rfl (decide_eq_true (by omega))) ?_
              refine wS_set rfl rfl rfl (a_assign rfl rfl) ?_
              refine wO_nil ?_
              refine wC_cond (p := true) rfl (fun _ => ?_) (fun hc => absurd hc (by decide))
              refine wC_skip ?_
              refine wC_cond (p := true) rfl (fun _ => ?_) (fun hc => absurd hc (by decide))
              refine wC_regD (by kernel_rfl) ?_
              refine wS_set rfl rfl rfl (a_fieldAddrA rfl (hT rfl) rfl rfl (hT rfl) rfl) ?_
              refine wS_set rfl rfl rfl (a_loadKids (by assumption) rfl rfl (hT rfl) rfl) ?_
              refine wS_set rfl rfl rfl (a_lenK rfl rfl (hT rfl) rfl) ?_
              refine wS_set rfl rfl rfl (a_assign rfl rfl) ?_
              refine wS_set rfl rfl rfl (a_assign rfl rfl) ?_
              refine wO_nil ⟨rfl, by kernel_rfl, ?_⟩
              exact pinned_mk rfl ⟨rfl, rfl, rfl, rfl, trivial⟩ ⟨rfl, trivial⟩
            · refine wC_seq ?_
              refine wC_seq ?_
              refine wC_reg ?_
              refine wS_set rfl rfl rfl (i_eql (p := false) rfl rfl (decide_eq_false (by omega))) ?_
              refine wS_set rfl rfl rfl (a_assign rfl rfl) ?_
              refine wO_nil ?_
              refine wC_cond (p := false) rfl (fun hc => absurd hc (by decide)) (fun _ => ?_)
              refine wC_seq ?_
              refine wC_reg ?_
              refine wS_set rfl rfl rfl (i_eql (p := false) rfl rfl (decide_eq_false (by omega))) ?_
              refine wS_set rfl rfl rfl (a_assign rfl rfl) ?_
              refine wO_nil ?_
              refine wC_cond (p := false) rfl (fun hc => absurd hc (by decide)) (fun _ => ?_)
              refine wC_reg ?_
              refine wS_set rfl rfl rfl (i_eql (p := false) rfl rfl (decide_eq_false (by omega))) ?_
              refine wS_set rfl rfl rfl (a_assign rfl rfl) ?_
              refine wO_nil ?_
              refine wC_cond (p := false) rfl (fun hc => absurd hc (by decide)) (fun _ => ?_)
              refine wC_seq ?_
              refine wC_seq ?_
              refine wC_reg ?_
              refine wS_set rfl rfl rfl (i_eql (p := false) rfl rfl (decide_eq_false (by omega))) ?_
              refine wS_set rfl rfl rfl (a_assign rfl rfl) ?_
              refine wO_nil ?_
              refine wC_cond (p := false) rfl (fun hc => absurd hc (by decide)) (fun _ => ?_)
              refine wC_reg ?_
              refine wS_set rfl rfl rfl (i_eql (p := true) rfl rfl (decide_eq_true (by omega))) ?_
              refine wS_set rfl rfl rfl (a_assign rfl rfl) ?_
              refine wO_nil ?_
              refine wC_cond (p := true) rfl (fun _ => ?_) (fun hc => absurd hc (by decide))
              refine wC_regD (by kernel_rfl) ?_
              refine wS_set rfl rfl rfl (a_fieldAddrA rfl (hT rfl) rfl rfl (hT rfl) rfl) ?_
              refine wS_set rfl rfl rfl (a_loadKids (by assumption) rfl rfl (hT rfl) rfl) ?_
              refine wS_set rfl rfl rfl (a_lenK rfl rfl (hT rfl) rfl) ?_
              refine wS_set rfl rfl rfl (a_assign rfl rfl) ?_
              refine wS_set rfl rfl rfl (a_assign rfl rfl) ?_
              refine wO_nil ⟨rfl, by kernel_rfl, ?_⟩
              exact pinned_mk rfl ⟨rfl, rfl, rfl, rfl, trivial⟩ ⟨rfl, trivial⟩
            · refine wC_seq ?_
              refine wC_seq ?_
              refine wC_reg ?_
              refine wS_set rfl rfl rfl (i_eql (p := false) rfl rfl (decide_eq_false (by omega))) ?_
              refine wS_set rfl rfl rfl (a_assign rfl rfl) ?_
              refine wO_nil ?_
              refine wC_cond (p := false) rfl (fun hc => absurd hc (by decide)) (fun _ => ?_)
              refine wC_seq ?_
              refine wC_reg ?_
              refine wS_set rfl rfl rfl (i_eql (p := false) rfl rfl (decide_eq_false (by omega))) ?_
              refine wS_set rfl rfl rfl (a_assign rfl rfl) ?_
              refine wO_nil ?_
              refine wC_cond (p := false) rfl (fun hc => absurd hc (by decide)) (fun _ => ?_)
              refine wC_reg ?_
              refine wS_set rfl rfl rfl (i_eql (p := false) rfl rfl (decide_eq_false (by omega))) ?_
              refine wS_set rfl rfl rfl (a_assign rfl rfl) ?_
              refine wO_nil ?_
              refine wC_cond (p := false) rfl (fun hc => absurd hc (by decide)) (fun _ => ?_)
              refine wC_seq ?_
              refine wC_seq ?_
              refine wC_reg ?_
              refine wS_set rfl rfl rfl (i_eql (p := false) rfl rfl (decide_eq_false (by omega))) ?_
              refine wS_set rfl rfl rfl (a_assign rfl rfl) ?_
              refine wO_nil ?_
              refine wC_cond (p := false) rfl (fun hc => absurd hc (by decide)) (fun _ => ?_)
              refine wC_reg ?_
              refine wS_set rfl rfl rfl (i_eql (p := false) rfl rfl (decide_eq_false (by omega))) ?_
              refine wS_set rfl rfl rfl (a_assign rfl rfl) ?_
              refine wO_nil ?_
              refine wC_cond (p := false) rfl (fun hc => absurd hc (by decide)) (fun _ => ?_)
              refine wC_seq ?_
              refine wC_reg ?_
              refine wS_set rfl rfl rfl (i_eql (p := true) rfl rfl (decide_eq_true (by omega))) ?_
              refine wS_set rfl rfl rfl (a_assign rfl rfl) ?_
              refine wO_nil ?_
              refine wC_cond (p := true) rfl (fun _ => ?_) (fun hc => absurd hc (by decide))
              refine wC_reg ?_
              refine wS_set rfl rfl rfl (a_assign rfl rfl) ?_
              refine wS_set rfl rfl rfl (a_assign rfl rfl) ?_
              refine wO_nil ?_
              exact pinned_mk rfl ⟨rfl, rfl, rfl, rfl, trivial⟩ ⟨rfl, trivial⟩
          · replace hi := hi.form
            obtain ⟨g, h, rfl⟩ := hi
            simp only
            by_cases hlo : r.l.length < lo
            · rw [if_pos (.inl hlo)]
              refine wC_seq ?_
              refine wC_seq ?_
              refine wC_reg ?_
              refine wS_set rfl rfl rfl (a_fieldAddrA rfl (hT rfl) rfl rfl (hT rfl) rfl) ?_
              refine wS_set rfl rfl rfl (a_loadKids (by assumption) rfl rfl (hT rfl) rfl) ?_
              refine wS_set rfl rfl rfl (a_lenK rfl rfl (hT rfl) rfl) ?_
              refine wS_set rfl rfl rfl (a_move rfl rfl) ?_
              refine wS_set rfl rfl rfl (b_lss (p := true) rfl rfl (decide_eq_true (by omega))) ?_
              refine wS_set rfl rfl rfl (a_move rfl rfl) ?_
              refine wS_skip rfl rfl rfl ?_
              refine wS_skip rfl rfl rfl ?_
              refine wS_skip rfl rfl rfl ?_
              refine wS_skip rfl rfl rfl ?_
              refine wS_skip rfl rfl rfl ?_
              refine wS_set rfl rfl rfl (a_pickT rfl rfl) ?_
              refine wO_nil ?_
              refine wC_cond (p := true) rfl (fun _ => ?_) (fun hc => absurd hc (by decide))
              refine wC_seq ?_
              refine wC_reg ?_
              refine wS_set rfl rfl rfl (a_assign rfl rfl) ?_
              refine wO_nil ?_
              refine wC_ret ?_
              exact end_tmp rfl rfl
            · by_cases hup : up < r.l.length
              · rw [if_pos (.inr hup)]
                refine wC_seq ?_
                refine wC_seq ?_
                refine wC_reg ?_
                refine wS_set rfl rfl rfl (a_fieldAddrA rfl (hT rfl) rfl rfl (hT rfl) rfl) ?_
                refine wS_set rfl rfl rfl (a_loadKids (by assumption) rfl rfl (hT rfl) rfl) ?_
                refine wS_set rfl rfl rfl (a_lenK rfl rfl (hT rfl) rfl) ?_
                refine wS_set rfl rfl rfl (a_move rfl rfl) ?_
                refine wS_set rfl rfl rfl (b_lss (p := false) rfl rfl (decide_eq_false (by omega))) ?_
                refine wS_set rfl rfl rfl (a_move rfl rfl) ?_
                refine wS_set rfl rfl rfl (a_fieldAddrA rfl (hT rfl) rfl rfl (hT rfl) rfl) ?_
                refine wS_set rfl rfl rfl (a_loadKids (by assumption) rfl rfl (hT rfl) rfl) ?_
                refine wS_set rfl rfl rfl (a_lenK rfl rfl (hT rfl) rfl) ?_
                refine wS_set rfl rfl rfl (a_move rfl rfl) ?_
                refine wS_set rfl rfl rfl (b_gtr (p := true) rfl rfl (decide_eq_true (by omega))) ?_
                refine wS_set rfl rfl rfl (a_pickF rfl rfl) ?_
                refine wO_nil ?_
                refine wC_cond (p := true) rfl (fun _ => ?_) (fun hc => absurd hc (by decide))
                refine wC_seq ?_
                refine wC_reg ?_
                refine wS_set rfl rfl rfl (a_assign rfl rfl) ?_
                refine wO_nil ?_
                refine wC_ret ?_
                exact end_tmp rfl rfl
              · rw [if_neg (by omega), show validPs r.l (d - 1) = validPs (r.l.drop 0) (d - 1) by rw [List.drop_zero]]
                refine wC_seq ?_
                refine wC_seq ?_
                refine wC_reg ?_
                refine wS_set rfl rfl rfl (a_fieldAddrA rfl (hT rfl) rfl rfl (hT rfl) rfl) ?_
                refine wS_set rfl rfl rfl (a_loadKids (by assumption) rfl rfl (hT rfl) rfl) ?_
                refine wS_set rfl rfl rfl (a_lenK rfl rfl (hT rfl) rfl) ?_
                refine wS_set rfl rfl rfl (a_move rfl rfl) ?_
                refine wS_set rfl rfl rfl (b_lss (p := false) rfl rfl (decide_eq_false (by omega))) ?_
                refine wS_set rfl rfl rfl (a_move rfl rfl) ?_
                refine wS_set rfl rfl rfl (a_fieldAddrA rfl (hT rfl) rfl rfl (hT rfl) rfl) ?_
                refine wS_set rfl rfl rfl (a_loadKids (by assumption) rfl rfl (hT rfl) rfl) ?_
                refine wS_set rfl rfl rfl (a_lenK rfl rfl (hT rfl) rfl) ?_
                refine wS_set rfl rfl rfl (a_move rfl rfl) ?_
                refine wS_set rfl rfl rfl (b_gtr (p := false) rfl rfl (decide_eq_false (by omega))) ?_
                refine wS_set rfl rfl rfl (a_pickF rfl rfl) ?_
                refine wO_nil ?_
                refine wC_cond (p := false) rfl (fun hc => absurd hc (by decide)) (fun _ => ?_)
                refine wC_skip ?_
                refine wC_seq ?_
                refine wC_seq ?_
                refine wC_reg ?_
                refine wS_set rfl rfl rfl (a_fieldAddrA rfl (hT rfl) rfl rfl (hT rfl) rfl) ?_
                refine wS_set rfl rfl rfl (a_loadKids (by assumption) rfl rfl (hT rfl) rfl) ?_
                refine wS_set rfl rfl rfl (a_lenK rfl rfl (hT rfl) rfl) ?_
                refine wS_set rfl rfl rfl (a_move rfl rfl) ?_
                refine wO_nil ?_
                refine wC_block ?_
                refine wC_loop (fun m ρ => ∃ i : Nat, i + m = r.l.length ∧ validPs (r.l.drop 0) (d - 1) = validPs (r.l.drop i) (d - 1) ∧
                    PinSt 60 [(1, .v (natV d)), (48, .v (.sl 6 (rxRows r.l))), (49, natX .i64 r.l.length), (50, natX .i64 i)] [] ρ) (fun m ρ hi => ?_) r.l.length
                  ⟨0, by omega, rfl, pinned_mk rfl ⟨rfl, rfl, rfl, rfl, trivial⟩ trivial⟩
                obtain ⟨i, hm, hsh, hi⟩ := hi
                replace hi := hi.form
                clear h
                obtain ⟨g, h, rfl⟩ := hi
                by_cases hlt : i < r.l.length
                · have hget : r.l[i]? = some (r.l[i]'hlt) := List.getElem?_eq_getElem hlt
                  have hwk : (r.l[i]'hlt).wf maxLen := hw.at hget
                  cases hv : validP (r.l[i]'hlt) (d - 1) with
                  | true =>
                    refine wC_seq ?_
                    refine wC_reg ?_
                    refine wS_set rfl rfl rfl (b_lss (p := true) rfl rfl (decide_eq_true (by omega))) ?_
                    refine wO_nil ?_
                    refine wC_seq ?_
                    refine wC_cond (p := true) rfl (fun _ => ?_) (fun hc => absurd hc (by decide))
                    refine wC_skip ?_
                    refine wC_seq ?_
                    refine wC_block ?_
                    refine wC_seq ?_
                    refine wC_reg ?_
                    refine wS_set rfl rfl rfl (n_kid hget rfl rfl (hT rfl) rfl (hT rfl) rfl) ?_
                    refine wS_set rfl rfl rfl (a_loadRxR (by assumption) rfl (hT rfl) rfl rfl) ?_
                    refine wS_set rfl rfl rfl (a_alloc (hT rfl) rfl rfl) ?_
                    refine wS_eff rfl rfl (a_storeRx (by assumption) rfl rfl rfl (by first | rfl | exact rxB_len (by assumption)) (hT rfl) rfl rfl) ?_
                    refine wO_nil ?_
                    refine wC_seq ?_
                    refine wC_reg ?_
                    refine wS_set rfl rfl rfl (a_loadRx (by assumption) rfl rfl (hT rfl) rfl rfl) ?_
                    refine wS_set rfl rfl rfl (a_move rfl rfl) ?_
                    refine wS_set rfl rfl rfl (n_sub (b := 1) rfl rfl (by omega) (by simp only [capN]; omega)) ?_
                    refine wS_set rfl rfl rfl (a_call rfl rfl fn29 rfl rfl (hv ▸ ih _ (List.getElem_mem hlt) hwk _ (by omega))) ?_
                    refine wS_set rfl rfl rfl (a_un rfl rfl) ?_
                    refine wO_nil ?_
                    refine wC_cond (p := false) rfl (fun hc => absurd hc (by decide)) (fun _ => ?_)
                    refine wC_skip ?_
                    refine wC_reg ?_
                    refine wS_set rfl rfl rfl (n_add (b := 1) rfl rfl (by simp only [capN]; omega)) ?_
                    refine wS_set rfl rfl rfl (a_move rfl rfl) ?_
                    refine wO_nil ?_
                    exact ⟨m - 1, by omega, i + 1, by omega, by rw [hsh]; exact validPs_t hget hv, pinned_mk rfl ⟨rfl, rfl, rfl, rfl, trivial⟩ trivial⟩
                  | false =>
                    rw [hsh, validPs_f hget hv]
                    refine wC_seq ?_
                    refine wC_reg ?_
                    refine wS_set rfl rfl rfl (b_lss (p := true) rfl rfl (decide_eq_true (by omega))) ?_
                    refine wO_nil ?_
                    refine wC_seq ?_
                    refine wC_cond (p := true) rfl (fun _ => ?_) (fun hc => absurd hc (by decide))
                    refine wC_skip ?_
                    refine wC_seq ?_
                    refine wC_block ?_
                    refine wC_seq ?_
                    refine wC_reg ?_
                    refine wS_set rfl rfl rfl (n_kid hget rfl rfl (hT rfl) rfl (hT rfl) rfl) ?_
                    refine wS_set rfl rfl rfl (a_loadRxR (by assumption) rfl (hT rfl) rfl rfl) ?_
                    refine wS_set rfl rfl rfl (a_alloc (hT rfl) rfl rfl) ?_
                    refine wS_eff rfl rfl (a_storeRx (by assumption) rfl rfl rfl (by first | rfl | exact rxB_len (by assumption)) (hT rfl) rfl rfl) ?_
                    refine wO_nil ?_
                    refine wC_seq ?_
                    refine wC_reg ?_
                    refine wS_set rfl rfl rfl (a_loadRx (by assumption) rfl rfl (hT rfl) rfl rfl) ?_
                    refine wS_set rfl rfl rfl (a_move rfl rfl) ?_
                    refine wS_set rfl rfl rfl (n_sub (b := 1) rfl rfl (by omega) (by simp only [capN]; omega)) ?_
                    refine wS_set rfl rfl rfl (a_call rfl rfl fn29 rfl rfl (hv ▸ ih _ (List.getElem_mem hlt) hwk _ (by omega))) ?_
                    refine wS_set rfl rfl rfl (a_un rfl rfl) ?_
                    refine wO_nil ?_
                    refine wC_cond (p := true) rfl (fun _ => ?_) (fun hc => absurd hc (by decide))
                    refine wC_seq ?_
                    refine wC_reg ?_
                    refine wS_set rfl rfl rfl (a_assign rfl rfl) ?_
                    refine wO_nil ?_
                    refine wC_ret ?_
                    exact end_tmp rfl rfl
                · obtain rfl : i = r.l.length := by omega
                  rw [hsh, List.drop_eq_nil_of_le (Nat.le_refl _), validPs]
                  refine wC_seq ?_
                  refine wC_reg ?_
                  refine wS_set rfl rfl rfl (b_lss (p := false) rfl rfl (decide_eq_false (by omega))) ?_
                  refine wO_nil ?_
                  refine wC_seq ?_
                  refine wC_cond (p := false) rfl (fun hc => absurd hc (by decide)) (fun _ => ?_)
                  refine wC_exit ?_
                  refine wC_seq ?_
                  refine wC_reg ?_
                  refine wS_set rfl rfl rfl (a_assign rfl rfl) ?_
                  refine wO_nil ?_
                  refine wC_ret ?_
                  exact end_tmp rfl rfl

end Go.Proofs.YtjppkpjlbbkdnaaDoor

namespace Go.Proofs.YtjppkpjlbbkdnaaDoor
open Go Go.Dv

set_option maxRecDepth 100000 in
set_option maxHeartbeats 4000000 in
theorem ev30 : ∀ (r : Rx), r.wf maxLen → ∀ (a : Nat), a ≤ 30 → FnEv tab ext 30 [.v (rxV r), .v (natV a)] [] (.ret [boolV (validR r a)], []) := by
  intro r
  induction r using Rx.ind' with
  | h r ih =>
    intro hw a ha
    have hlen := hw.len
    simp only [maxLen] at hlen
    refine fn_go _ no30 fn30 rfl rfl rfl ?_
    by_cases h0 : 30 ≤ a
    · rw [validR_eq, if_pos h0]
      refine wC_seq ?_
      refine wC_reg ?_
      refine wS_set rfl rfl rfl (a_boxRx (by assumption) rfl (hT rfl) rfl rfl rfl) ?_
      refine wS_set rfl rfl rfl (a_assign rfl rfl) ?_
      refine wO_nil ?_
      refine wC_seq ?_
      refine wC_seq ?_
      refine wC_reg ?_
      refine wS_set rfl rfl rfl (a_move rfl rfl) ?_
      refine wS_set rfl rfl rfl (b_geq (p := true) (b := 30) rfl rfl (decide_eq_true (by omega))) ?_
      refine wS_set rfl rfl rfl (a_move rfl rfl) ?_
      refine wS_skip rfl rfl rfl ?_
      refine wS_skip rfl rfl rfl ?_
      refine wS_skip rfl rfl rfl ?_
      refine wS_skip rfl rfl rfl ?_
      refine wS_skip rfl rfl rfl ?_
      refine wS_skip rfl rfl rfl ?_
      refine wS_skip rfl rfl rfl ?_
      refine wS_skip rfl rfl rfl ?_
      refine wS_skip rfl rfl rfl ?_
      refine wS_set rfl rfl rfl (a_pickT rfl rfl) ?_
      refine wO_nil ?_
      refine wC_cond (p := true) rfl (fun _ => ?_) (fun hc => absurd hc (by decide))
      refine wC_seq ?_
      refine wC_reg ?_
      refine wS_set rfl rfl rfl (a_assign rfl rfl) ?_
      refine wO_nil ?_
      refine wC_ret ?_
      exact end_tmp rfl rfl
    · rw [validR_eq, if_neg h0]
      by_cases h3 : r.k = 3
      · rw [if_neg (by simp [h3]), if_neg (by omega), if_pos h3]
        by_cases hl : r.l.length = 0
        · rw [decide_eq_true hl, Bool.true_and, show decide (r.s ≠ zeroW) = !decide (r.s = zeroW) from decide_not]
          refine wC_seq ?_
          refine wC_reg ?_
          refine wS_set rfl rfl rfl (a_boxRx (by assumption) rfl (hT rfl) rfl rfl rfl) ?_
          refine wS_set rfl rfl rfl (a_assign rfl rfl) ?_
          refine wO_nil ?_
          refine wC_seq ?_
          refine wC_seq ?_
          refine wC_reg ?_
          refine wS_set rfl rfl rfl (a_move rfl rfl) ?_
          refine wS_set rfl rfl rfl (b_geq (p := false) (b := 30) rfl rfl (decide_eq_false (by omega))) ?_
          refine wS_set rfl rfl rfl (a_move rfl rfl) ?_
          refine wS_set rfl rfl rfl (a_fieldAddrA rfl (hT rfl) rfl rfl (hT rfl) rfl) ?_
          refine wS_set rfl rfl rfl (a_loadK rfl rfl (hT rfl) rfl) ?_
          refine wS_set rfl rfl rfl (i_neq (p := false) rfl rfl (decide_eq_false (by omega))) ?_
          refine wS_set rfl rfl rfl (a_move rfl rfl) ?_
          refine wS_skip rfl rfl rfl ?_
          refine wS_skip rfl rfl rfl ?_
          refine wS_skip rfl rfl rfl ?_
          refine wS_skip rfl rfl rfl ?_
          refine wS_set rfl rfl rfl (a_pickF rfl rfl) ?_
          refine wS_set rfl rfl rfl (a_pickF rfl rfl) ?_
          refine wO_nil ?_
          refine wC_cond (p := false) rfl (fun hc => absurd hc (by decide)) (fun _ => ?_)
          refine wC_skip ?_
          refine wC_seq ?_
          refine wC_reg ?_
          refine wS_set rfl rfl rfl (a_fieldAddrA rfl (hT rfl) rfl rfl (hT rfl) rfl) ?_
          refine wS_set rfl rfl rfl (a_loadKids (by assumption) rfl rfl (hT rfl) rfl) ?_
          refine wS_set rfl rfl rfl (a_lenK rfl rfl (hT rfl) rfl) ?_
          refine wS_set rfl rfl rfl (a_assign rfl rfl) ?_
          refine wO_nil ?_
          refine wC_seq ?_
          refine wC_seq ?_
          refine wC_reg ?_
          refine wS_set rfl rfl rfl (a_fieldAddrA rfl (hT rfl) rfl rfl (hT rfl) rfl) ?_
          refine wS_set rfl rfl rfl (a_loadK rfl rfl (hT rfl) rfl) ?_
          refine wO_nil ?_
          refine wC_block ?_
          refine wC_seq ?_
          refine wC_seq ?_
          refine wC_reg ?_
          refine wS_set rfl rfl rfl (i_eql (p := false) rfl rfl (decide_eq_false (by omega))) ?_
          refine wS_set rfl rfl rfl (a_assign rfl rfl) ?_
          refine wO_nil ?_
          refine wC_cond (p := false) rfl (fun hc => absurd hc (by decide)) (fun _ => ?_)
          refine wC_reg ?_
          refine wS_set rfl rfl rfl (i_eql (p := false) rfl rfl (decide_eq_false (by omega))) ?_
          refine wS_set rfl rfl rfl (a_assign rfl rfl) ?_
          refine wO_nil ?_
          refine wC_cond (p := false) rfl (fun hc => absurd hc (by decide)) (fun _ => ?_)
          refine wC_seq ?_
          refine wC_reg ?_
          refine wS_set rfl rfl rfl (i_eql (p := true) rfl rfl (decide_eq_true (by omega))) ?_
          refine wS_set rfl rfl rfl (a_assign rfl rfl) ?_
          refine wO_nil ?_
          refine wC_cond (p := true) rfl (fun _ => ?_) (fun hc => absurd hc (by decide))
          refine wC_seq ?_
          refine wC_reg ?_
          refine wS_set rfl rfl rfl (a_move rfl rfl) ?_
          refine wS_set rfl rfl rfl (b_eql (p := true) (b := 0) rfl rfl (decide_eq_true (by omega))) ?_
          refine wS_set rfl rfl rfl (a_move rfl rfl) ?_
          refine wS_set rfl rfl rfl (a_fieldAddrA rfl (hT rfl) rfl rfl (hT rfl) rfl) ?_
          refine wS_set rfl rfl rfl (a_loadSet (by assumption) rfl rfl (hT rfl) rfl rfl) ?_
          refine wS_set rfl rfl rfl (a_build0 (hT rfl) rfl rfl rfl rfl) ?_
          refine wS_set rfl rfl rfl (a_neSet hw.set isW_zero rfl rfl rfl rfl) ?_
          refine wS_set rfl rfl rfl (a_pickT rfl rfl) ?_
          refine wS_set rfl rfl rfl (a_assign rfl rfl) ?_
          refine wO_nil ?_
          refine wC_ret ?_
          exact end_tmp rfl rfl
        · rw [decide_eq_false hl, Bool.false_and]
          refine wC_seq ?_
          refine wC_reg ?_
          refine wS_set rfl rfl rfl (a_boxRx (by assumption) rfl (hT rfl) rfl rfl rfl) ?_
          refine wS_set rfl rfl rfl (a_assign rfl rfl) ?_
          refine wO_nil ?_
          refine wC_seq ?_
          refine wC_seq ?_
          refine wC_reg ?_
          refine wS_set rfl rfl rfl (a_move rfl rfl) ?_
          refine wS_set rfl rfl rfl (b_geq (p := false) (b := 30) rfl rfl (decide_eq_false (by omega))) ?_
          refine wS_set rfl rfl rfl (a_move rfl rfl) ?_
          refine wS_set rfl rfl rfl (a_fieldAddrA rfl (hT rfl) rfl rfl (hT rfl) rfl) ?_
          refine wS_set rfl rfl rfl (a_loadK rfl rfl (hT rfl) rfl) ?_
          refine wS_set rfl rfl rfl (i_neq (p := false) rfl rfl (decide_eq_false (by omega))) ?_
          refine wS_set rfl rfl rfl (a_move rfl rfl) ?_
          refine wS_skip rfl rfl rfl ?_
          refine wS_skip rfl rfl rfl ?_
          refine wS_skip rfl rfl rfl ?_
          refine wS_skip rfl rfl rfl ?_
          refine wS_set rfl rfl rfl (a_pickF rfl rfl) ?_
          refine wS_set rfl rfl rfl (a_pickF rfl rfl) ?_
          refine wO_nil ?_
          refine wC_cond (p := false) rfl (fun hc => absurd hc (by decide)) (fun _ => ?_)
          refine wC_skip ?_
          refine wC_seq ?_
          refine wC_reg ?_
          refine wS_set rfl rfl rfl (a_fieldAddrA rfl (hT rfl) rfl rfl (hT rfl) rfl) ?_
          refine wS_set rfl rfl rfl (a_loadKids (by assumption) rfl rfl (hT rfl) rfl) ?_
          refine wS_set rfl rfl rfl (a_lenK rfl rfl (hT rfl) rfl) ?_
          refine wS_set rfl rfl rfl (a_assign rfl rfl) ?_
          refine wO_nil ?_
          refine wC_seq ?_
          refine wC_seq ?_
          refine wC_reg ?_
          refine wS_set rfl rfl rfl (a_fieldAddrA rfl (hT rfl) rfl rfl (hT rfl) rfl) ?_
          refine wS_set rfl rfl rfl (a_loadK rfl rfl (hT rfl) rfl) ?_
          refine wO_nil ?_
          refine wC_block ?_
          refine wC_seq ?_
          refine wC_seq ?_
          refine wC_reg ?_
          refine wS_set rfl rfl rfl (i_eql (p := false) rfl rfl (decide_eq_false (by omega))) ?_
          refine wS_set rfl rfl rfl (a_assign rfl rfl) ?_
          refine wO_nil ?_
          refine wC_cond (p := false) rfl (fun hc => absurd hc (by decide)) (fun _ => ?_)
          refine wC_reg ?_
          refine wS_set rfl rfl rfl (i_eql (p := false) rfl rfl (decide_eq_false (by omega))) ?_
          refine wS_set rfl rfl rfl (a_assign rfl rfl) ?_
          refine wO_nil ?_
          refine wC_cond (p := false) rfl (fun hc => absurd hc (by decide)) (fun _ => ?_)
          refine wC_seq ?_
          refine wC_reg ?_
          refine wS_set rfl rfl rfl (i_eql (p := true) rfl rfl (decide_eq_true (by omega))) ?_
          refine wS_set rfl rfl rfl (a_assign rfl rfl) ?_
          refine wO_nil ?_
          refine wC_cond (p := true) rfl (fun _ => ?_) (fun hc => absurd hc (by decide))
          refine wC_seq ?_
          refine wC_reg ?_
          refine wS_set rfl rfl rfl (a_move rfl rfl) ?_
          refine wS_set rfl rfl rfl (b_eql (p := false) (b := 0) rfl rfl (decide_eq_false (by omega))) ?_
          refine wS_set rfl rfl rfl (a_move rfl rfl) ?_
          refine wS_skip rfl rfl rfl ?_
          refine wS_skip rfl rfl rfl ?_
          refine wS_skip rfl rfl rfl ?_
          refine wS_skip rfl rfl rfl ?_
          refine wS_set rfl rfl rfl (a_pickF rfl rfl) ?_
          refine wS_set rfl rfl rfl (a_assign rfl rfl) ?_
          refine wO_nil ?_
          refine wC_ret ?_
          exact end_tmp rfl rfl
      · by_cases hz : r.s = zeroW
        · rw [if_neg (by simp [hz])]
          by_cases h12 : r.k = 1 ∨ r.k = 2
          · rw [if_pos h12]
            rcases h12 with hk | hk
            · refine wC_seq ?_
              refine wC_reg ?_
              refine wS_set rfl rfl rfl (a_boxRx (by assumption) rfl (hT rfl) rfl rfl rfl) ?_
              refine wS_set rfl rfl rfl (a_assign rfl rfl) ?_
              refine wO_nil ?_
              refine wC_seq ?_
              refine wC_seq ?_
              refine wC_reg ?_
              refine wS_set rfl rfl rfl (a_move rfl rfl) ?_
              refine wS_set rfl rfl rfl (b_geq (p := false) (b := 30) rfl rfl (decide_eq_false (by omega))) ?_
              refine wS_set rfl rfl rfl (a_move rfl rfl) ?_
              refine wS_set rfl rfl rfl (a_fieldAddrA rfl (hT rfl) rfl rfl (hT rfl) rfl) ?_
              refine wS_set rfl rfl rfl (a_loadK rfl rfl (hT rfl) rfl) ?_
              refine wS_set rfl rfl rfl (i_neq (p := true) rfl rfl (decide_eq_true (by omega))) ?_
              refine wS_set rfl rfl rfl (a_move rfl rfl) ?_
              refine wS_set rfl rfl rfl (a_fieldAddrA rfl (hT rfl) rfl rfl (hT rfl) rfl) ?_
              refine wS_set rfl rfl rfl (a_loadSet (by assumption) rfl rfl (hT rfl) rfl rfl) ?_
              refine wS_set rfl rfl rfl (a_build0 (hT rfl) rfl rfl rfl rfl) ?_
              refine wS_set rfl rfl rfl (a_neSet (p := true) hw.set isW_zero (decide_eq_true (by assumption)) rfl rfl rfl) ?_
              refine wS_set rfl rfl rfl (a_pickT rfl rfl) ?_
              refine wS_set rfl rfl rfl (a_pickF rfl rfl) ?_
              refine wO_nil ?_
              refine wC_cond (p := false) rfl (fun hc => absurd hc (by decide)) (fun _ => ?_)
              refine wC_skip ?_
              refine wC_seq ?_
              refine wC_reg ?_
              refine wS_set rfl rfl rfl (a_fieldAddrA rfl (hT rfl) rfl rfl (hT rfl) rfl) ?_
              refine wS_set rfl rfl rfl (a_loadKids (by assumption) rfl rfl (hT rfl) rfl) ?_
              refine wS_set rfl rfl rfl (a_lenK rfl rfl (hT rfl) rfl) ?_
              refine wS_set rfl rfl rfl (a_assign rfl rfl) ?_
              refine wO_nil ?_
              refine wC_seq ?_
              refine wC_seq ?_
              refine wC_reg ?_
              refine wS_set rfl rfl rfl (a_fieldAddrA rfl (hT rfl) rfl rfl (hT rfl) rfl) ?_
              refine wS_set rfl rfl rfl (a_loadK rfl rfl (hT rfl) rfl) ?_
              refine wO_nil ?_
              refine wC_block ?_
              refine wC_seq ?_
              refine wC_seq ?_
              refine wC_reg ?_
              refine wS_set rfl rfl rfl (i_eql (p := true) rfl rfl (decide_eq_true (by omega))) ?_
              refine wS_set rfl rfl rfl (a_assign rfl rfl) ?_
              refine wO_nil ?_
              refine wC_cond (p := true) rfl (fun _ => ?_) (fun hc => absurd hc (by decide))
              refine wC_skip ?_
              refine wC_cond (p := true) rfl (fun _ => ?_) (fun hc => absurd hc (by decide))
              refine wC_seq ?_
              refine wC_reg ?_
              refine wS_set rfl rfl rfl (a_move rfl rfl) ?_
              refine wS_set rfl rfl rfl (n_eql rfl rfl) ?_
              refine wS_set rfl rfl rfl (a_assign rfl rfl) ?_
              refine wO_nil ?_
              refine wC_ret ?_
              exact end_tmp rfl rfl
            · refine wC_seq ?_
              refine wC_reg ?_
              refine wS_set rfl rfl rfl (a_boxRx (by assumption) rfl (hT rfl) rfl rfl rfl) ?_
              refine wS_set rfl rfl rfl (a_assign rfl rfl) ?_
              refine wO_nil ?_
              refine wC_seq ?_
              refine wC_seq ?_
              refine wC_reg ?_
              refine wS_set rfl rfl rfl (a_move rfl rfl) ?_
              refine wS_set rfl rfl rfl (b_geq (p := false) (b := 30) rfl rfl (decide_eq_false (by omega))) ?_
              refine wS_set rfl rfl rfl (a_move rfl rfl) ?_
              refine wS_set rfl rfl rfl (a_fieldAddrA rfl (hT rfl) rfl rfl (hT rfl) rfl) ?_
              refine wS_set rfl rfl rfl (a_loadK rfl rfl (hT rfl) rfl) ?_
              refine wS_set rfl rfl rfl (i_neq (p := true) rfl rfl (decide_eq_true (by omega))) ?_
              refine wS_set rfl rfl rfl (a_move rfl rfl) ?_
              refine wS_set rfl rfl rfl (a_fieldAddrA rfl (hT rfl) rfl rfl (hT rfl) rfl) ?_
              refine wS_set rfl rfl rfl (a_loadSet (by assumption) rfl rfl (hT rfl) rfl rfl) ?_
              refine wS_set rfl rfl rfl (a_build0 (hT rfl) rfl rfl rfl rfl) ?_
              refine wS_set rfl rfl rfl (a_neSet (p := true) hw.set isW_zero (decide_eq_true (by assumption)) rfl rfl rfl) ?_
              refine wS_set rfl rfl rfl (a_pickT rfl rfl) ?_
              refine wS_set rfl rfl rfl (a_pickF rfl rfl) ?_
              refine wO_nil ?_
              refine wC_cond (p := false) rfl (fun hc => absurd hc (by decide)) (fun _ => ?_)
              refine wC_skip ?_
              refine wC_seq ?_
              refine wC_reg ?_
              refine wS_set rfl rfl rfl (a_fieldAddrA rfl (hT rfl) rfl rfl (hT rfl) rfl) ?_
              refine wS_set rfl rfl rfl (a_loadKids (by assumption) rfl rfl (hT rfl) rfl) ?_
              refine wS_set rfl rfl rfl (a_lenK rfl rfl (hT rfl) rfl) ?_
              refine wS_set rfl rfl rfl (a_assign rfl rfl) ?_
              refine wO_nil ?_
              refine wC_seq ?_
              refine wC_seq ?_
              refine wC_reg ?_
              refine wS_set rfl rfl rfl (a_fieldAddrA rfl (hT rfl) rfl rfl (hT rfl) rfl) ?_
              refine wS_set rfl rfl rfl (a_loadK rfl rfl (hT rfl) rfl) ?_
              refine wO_nil ?_
              refine wC_block ?_
              refine wC_seq ?_
              refine wC_seq ?_
              refine wC_reg ?_
              refine wS_set rfl rfl rfl (i_eql (p := false) rfl rfl (decide_eq_false (by omega))) ?_
              refine wS_set rfl rfl rfl (a_assign rfl rfl) ?_
              refine wO_nil ?_
              refine wC_cond (p := false) rfl (fun hc => absurd hc (by decide)) (fun _ => ?_)
              refine wC_reg ?_
              refine wS_set rfl rfl rfl (i_eql (p := true) rfl rfl (decide_eq_true (by omega))) ?_
              refine wS_set rfl rfl rfl (a_assign rfl rfl) ?_
              refine wO_nil ?_
              refine wC_cond (p := true) rfl (fun _ => ?_) (fun hc => absurd hc (by decide))
              refine wC_seq ?_
              refine wC_reg ?_
              refine wS_set rfl rfl rfl (a_move rfl rfl) ?_
              refine wS_set rfl rfl rfl (n_eql rfl rfl) ?_
              refine wS_set rfl rfl rfl (a_assign rfl rfl) ?_
              refine wO_nil ?_
              refine wC_ret ?_
              exact end_tmp rfl rfl
          · rw [if_neg h12, if_neg h3]
            by_cases h456 : r.k = 4 ∨ r.k = 5 ∨ r.k = 6
            · by_cases hcnt : (r.k = 6 ∧ r.l.length ≠ 1) ∨ (r.k ≠ 6 ∧ r.l.length < 2)
              · rcases hcnt with ⟨hk, hc⟩ | ⟨hk, hc⟩
                · rw [if_neg (by omega), if_pos hk, if_pos hc]
                  refine wC_seq ?_
                  refine wC_reg ?_
                  refine wS_set rfl rfl rfl (a_boxRx (by assumption) rfl (hT rfl) rfl rfl rfl) ?_
                  refine wS_set rfl rfl rfl (a_assign rfl rfl) ?_
                  refine wO_nil ?_
                  refine wC_seq ?_
                  refine wC_seq ?_
                  refine wC_reg ?_
                  refine wS_set rfl rfl rfl (a_move rfl rfl) ?_
                  refine wS_set rfl rfl rfl (b_geq (p := false) (b := 30) rfl rfl (decide_eq_false (by omega))) ?_
                  refine wS_set rfl rfl rfl (a_move rfl rfl) ?_
                  refine wS_set rfl rfl rfl (a_fieldAddrA rfl (hT rfl) rfl rfl (hT rfl) rfl) ?_
                  refine wS_set rfl rfl rfl (a_loadK rfl rfl (hT rfl) rfl) ?_
                  refine wS_set rfl rfl rfl (i_neq (p := true) rfl rfl (decide_eq_true (by omega))) ?_
                  refine wS_set rfl rfl rfl (a_move rfl rfl) ?_
                  refine wS_set rfl rfl rfl (a_fieldAddrA rfl (hT rfl) rfl rfl (hT rfl) rfl) ?_
                  refine wS_set rfl rfl rfl (a_loadSet (by assumption) rfl rfl (hT rfl) rfl rfl) ?_
                  refine wS_set rfl rfl rfl (a_build0 (hT rfl) rfl rfl rfl rfl) ?_
                  refine wS_set rfl rfl rfl (a_neSet (p := true) hw.set isW_zero (decide_eq_true (by assumption)) rfl rfl rfl) ?_
                  refine wS_set rfl rfl rfl (a_pickT rfl rfl) ?_
                  refine wS_set rfl rfl rfl (a_pickF rfl rfl) ?_
                  refine wO_nil ?_
                  refine wC_cond (p := false) rfl (fun hc => absurd hc (by decide)) (fun _ => ?_)
                  refine wC_skip ?_
                  refine wC_seq ?_
                  refine wC_reg ?_
                  refine wS_set rfl rfl rfl (a_fieldAddrA rfl (hT rfl) rfl rfl (hT rfl) rfl) ?_
                  refine wS_set rfl rfl rfl (a_loadKids (by assumption) rfl rfl (hT rfl) rfl) ?_
                  refine wS_set rfl rfl rfl (a_lenK rfl rfl (hT rfl) rfl) ?_
                  refine wS_set rfl rfl rfl (a_assign rfl rfl) ?_
                  refine wO_nil ?_
                  refine wC_seq ?_
                  refine wC_seq ?_
                  refine wC_reg ?_
                  refine wS_set rfl rfl rfl (a_fieldAddrA rfl (hT rfl) rfl rfl (hT rfl) rfl) ?_
                  refine wS_set rfl rfl rfl (a_loadK rfl rfl (hT rfl) rfl) ?_
                  refine wO_nil ?_
                  refine wC_block ?_
                  refine wC_seq ?_
                  refine wC_seq ?_
                  refine wC_reg ?_
                  refine wS_set rfl rfl rfl (i_eql (p := false) rfl rfl (decide_eq_false (by omega))) ?_
                  refine wS_set rfl rfl rfl (a_assign rfl rfl) ?_
                  refine wO_nil ?_
                  refine wC_cond (p := false) rfl (fun hc => absurd hc (by decide)) (fun _ => ?_)
                  refine wC_reg ?_
                  refine wS_set rfl rfl rfl (i_eql (p := false) rfl rfl (decide_eq_false (by omega))) ?_
                  refine wS_set rfl rfl rfl (a_assign rfl rfl) ?_
                  refine wO_nil ?_
                  refine wC_cond (p := false) rfl (fun hc => absurd hc (by decide)) (fun _ => ?_)
                  refine wC_seq ?_
                  refine wC_reg ?_
                  refine wS_set rfl rfl rfl (i_eql (p := false) rfl rfl (decide_eq_false (by omega))) ?_
                  refine wS_set rfl rfl rfl (a_assign rfl rfl) ?_
                  refine wO_nil ?_
                  refine wC_cond (p := false) rfl (fun hc => absurd hc (by decide)) (fun _ => ?_)
                  refine wC_seq ?_
                  refine wC_seq ?_
                  refine wC_reg ?_
                  refine wS_set rfl rfl rfl (i_eql (p := false) rfl rfl (decide_eq_false (by omega))) ?_
                  refine wS_set rfl rfl rfl (a_assign rfl rfl) ?_
                  refine wO_nil ?_
                  refine wC_cond (p := false) rfl (fun hc => absurd hc (by decide)) (fun _ => ?_)
                  refine wC_reg ?_
                  refine wS_set rfl rfl rfl (i_eql (p := false) rfl rfl (decide_eq_false (by omega))) ?_
                  refine wS_set rfl rfl rfl (a_assign rfl rfl) ?_
                  refine wO_nil ?_
                  refine wC_cond (p := false) rfl (fun hc => absurd hc (by decide)) (fun _ => ?_)
                  refine wC_seq ?_
                  refine wC_reg ?_
                  refine wS_set rfl rfl rfl (i_eql (p := true) rfl rfl (decide_eq_true (by omega))) ?_
                  refine wS_set rfl rfl rfl (a_assign rfl rfl) ?_
                  refine wO_nil ?_
                  refine wC_cond (p := true) rfl (fun _ => ?_) (fun hc => absurd hc (by decide))
                  refine wC_seq ?_
                  refine wC_reg ?_
                  refine wS_set rfl rfl rfl (a_move rfl rfl) ?_
                  refine wS_set rfl rfl rfl (b_neq (p := true) (b := 1) rfl rfl (decide_eq_true (by omega))) ?_
                  refine wO_nil ?_
                  refine wC_cond (p := true) rfl (fun _ => ?_) (fun hc => absurd hc (by decide))
                  refine wC_seq ?_
                  refine wC_reg ?_
                  refine wS_set rfl rfl rfl (a_assign rfl rfl) ?_
                  refine wO_nil ?_
                  refine wC_ret ?_
                  exact end_tmp rfl rfl
                · rw [if_pos (by omega), if_pos hc]
                  rcases h456 with hk | hk | hk
                  · refine wC_seq ?_
                    refine wC_reg ?_
                    refine wS_set rfl rfl rfl (a_boxRx (by assumption) rfl (hT rfl) rfl rfl rfl) ?_
                    refine wS_set rfl rfl rfl (a_assign rfl rfl) ?_
                    refine wO_nil ?_
                    refine wC_seq ?_
                    refine wC_seq ?_
                    refine wC_reg ?_
                    refine wS_set rfl rfl rfl (a_move rfl rfl) ?_
                    refine wS_set rfl rfl rfl (b_geq (p := false) (b := 30) rfl rfl (decide_eq_false (by omega))) ?_
                    refine wS_set rfl rfl rfl (a_move rfl rfl) ?_
                    refine wS_set rfl rfl rfl (a_fieldAddrA rfl (hT rfl) rfl rfl (hT rfl) rfl) ?_
                    refine wS_set rfl rfl rfl (a_loadK rfl rfl (hT rfl) rfl) ?_
                    refine wS_set rfl rfl rfl (i_neq (p := true) rfl rfl (decide_eq_true (by omega))) ?_
                    refine wS_set rfl rfl rfl (a_move rfl rfl) ?_
                    refine wS_set rfl rfl rfl (a_fieldAddrA rfl (hT rfl) rfl rfl (hT rfl) rfl) ?_
                    refine wS_set rfl rfl rfl (a_loadSet (by assumption) rfl rfl (hT rfl) rfl rfl) ?_
                    refine wS_set rfl rfl rfl (a_build0 (hT rfl) rfl rfl rfl rfl) ?_
                    refine wS_set rfl rfl rfl (a_neSet (p := true) hw.set isW_zero (decide_eq_true (by assumption)) rfl rfl rfl) ?_
                    refine wS_set rfl rfl rfl (a_pickT rfl rfl) ?_
                    refine wS_set rfl rfl rfl (a_pickF rfl rfl) ?_
                    refine wO_nil ?_
                    refine wC_cond (p := false) rfl (fun hc => absurd hc (by decide)) (fun _ => ?_)
                    refine wC_skip ?_
                    refine wC_seq ?_
                    refine wC_reg ?_
                    refine wS_set rfl rfl rfl (a_fieldAddrA rfl (hT rfl) rfl rfl (hT rfl) rfl) ?_
                    refine wS_set rfl rfl rfl (a_loadKids (by assumption) rfl rfl (hT rfl) rfl) ?_
                    refine wS_set rfl rfl rfl (a_lenK rfl rfl (hT rfl) rfl) ?_
                    refine wS_set rfl rfl rfl (a_assign rfl rfl) ?_
                    refine wO_nil ?_
                    refine wC_seq ?_
                    refine wC_seq ?_
                    refine wC_reg ?_
                    refine wS_set rfl rfl rfl (a_fieldAddrA rfl (hT rfl) rfl rfl (hT rfl) rfl) ?_
                    refine wS_set rfl rfl rfl (a_loadK rfl rfl (hT rfl) rfl) ?_
                    refine wO_nil ?_
                    refine wC_block ?_
                    refine wC_seq ?_
                    refine wC_seq ?_
                    refine wC_reg ?_
                    refine wS_set rfl rfl rfl (i_eql (p := false) rfl rfl (decide_eq_false (by omega))) ?_
                    refine wS_set rfl rfl rfl (a_assign rfl rfl) ?_
                    refine wO_nil ?_
                    refine wC_cond (p := false) rfl (fun hc => absurd hc (by decide)) (fun _ => ?_)
                    refine wC_reg ?_
                    refine wS_set rfl rfl rfl (i_eql (p := false) rfl rfl (decide_eq_false (by omega))) ?_
                    refine wS_set rfl rfl rfl (a_assign rfl rfl) ?_
                    refine wO_nil ?_
                    refine wC_cond (p := false) rfl (fun hc => absurd hc (by decide)) (fun _ => ?_)
                    refine wC_seq ?_
                    refine wC_reg ?_
                    refine wS_set rfl rfl rfl (i_eql (p := false) rfl rfl (decide_eq_false (by omega))) ?_
                    refine wS_set rfl rfl rfl (a_assign rfl rfl) ?_
                    refine wO_nil ?_
                    refine wC_cond (p := false) rfl (fun hc => absurd hc (by decide)) (fun _ => ?_)
                    refine wC_seq ?_
                    refine wC_seq ?_
                    refine wC_reg ?_
                    refine wS_set rfl rfl rfl (i_eql (p := true) rfl rfl (decide_eq_true (by omega))) ?_
                    refine wS_set rfl rfl rfl (a_assign rfl rfl) ?_
                    refine wO_nil ?_
                    refine wC_cond (p := true) rfl (fun _ => ?_) (fun hc => absurd hc (by decide))
                    refine wC_skip ?_
                    refine wC_cond (p := true) rfl (fun _ => ?_) (fun hc => absurd hc (by decide))
                    refine wC_seq ?_
                    refine wC_reg ?_
                    refine wS_set rfl rfl rfl (a_move rfl rfl) ?_
                    refine wS_set rfl rfl rfl (b_lss (p := true) (b := 2) rfl rfl (decide_eq_true (by omega))) ?_
                    refine wO_nil ?_
                    refine wC_cond (p := true) rfl (fun _ => ?_) (fun hc => absurd hc (by decide))
                    refine wC_seq ?_
                    refine wC_reg ?_
                    refine wS_set rfl rfl rfl (a_assign rfl rfl) ?_
                    refine wO_nil ?_
                    refine wC_ret ?_
                    exact end_tmp rfl rfl
                  · refine wC_seq ?_
                    refine wC_reg ?_
                    refine wS_set rfl rfl rfl (a_boxRx (by assumption) rfl (hT rfl) rfl rfl rfl) ?_
                    refine wS_set rfl rfl rfl (a_assign rfl rfl) ?_
                    refine wO_nil ?_
                    refine wC_seq ?_
                    refine wC_seq ?_
                    refine wC_reg ?_
                    refine wS_set rfl rfl rfl (a_move rfl rfl) ?_
                    refine wS_set rfl rfl rfl (b_geq (p := false) (b := 30) rfl rfl (decide_eq_false (by omega))) ?_
                    refine wS_set rfl rfl rfl (a_move rfl rfl) ?_
                    refine wS_set rfl rfl rfl (a_fieldAddrA rfl (hT rfl) rfl rfl (hT rfl) rfl) ?_
                    refine wS_set rfl rfl rfl (a_loadK rfl rfl (hT rfl) rfl) ?_
                    refine wS_set rfl rfl rfl (i_neq (p := true) rfl rfl (decide_eq_true (by omega))) ?_
                    refine wS_set rfl rfl rfl (a_move rfl rfl) ?_
                    refine wS_set rfl rfl rfl (a_fieldAddrA rfl (hT rfl) rfl rfl (hT rfl) rfl) ?_
                    refine wS_set rfl rfl rfl (a_loadSet (by assumption) rfl rfl (hT rfl) rfl rfl) ?_
                    refine wS_set rfl rfl rfl (a_build0 (hT rfl) rfl rfl rfl rfl) ?_
                    refine wS_set rfl rfl rfl (a_neSet (p := true) hw.set isW_zero (decide_eq_true (by assumption)) rfl rfl rfl) ?_
                    refine wS_set rfl rfl rfl (a_pickT rfl rfl) ?_
                    refine wS_set rfl rfl rfl (a_pickF rfl rfl) ?_
                    refine wO_nil ?_
                    refine wC_cond (p := false) rfl (fun hc => absurd hc (by decide)) (fun _ => ?_)
                    refine wC_skip ?_
                    refine wC_seq ?_
                    refine wC_reg ?_
                    refine wS_set rfl rfl rfl (a_fieldAddrA rfl (hT rfl) rfl rfl (hT rfl) rfl) ?_
                    refine wS_set rfl rfl rfl (a_loadKids (by assumption) rfl rfl (hT rfl) rfl) ?_
                    refine wS_set rfl rfl rfl (a_lenK rfl rfl (hT rfl) rfl) ?_
                    refine wS_set rfl rfl rfl (a_assign rfl rfl) ?_
                    refine wO_nil ?_
                    refine wC_seq ?_
                    refine wC_seq ?_
                    refine wC_reg ?_
                    refine wS_set rfl rfl rfl (a_fieldAddrA rfl (hT rfl) rfl rfl (hT rfl) rfl) ?_
                    refine wS_set rfl rfl rfl (a_loadK rfl rfl (hT rfl) rfl) ?_
                    refine wO_nil ?_
                    refine wC_block ?_
                    refine wC_seq ?_
                    refine wC_seq ?_
                    refine wC_reg ?_
                    refine wS_set rfl rfl rfl (i_eql (p := false) rfl rfl (decide_eq_false (by omega))) ?_
                    refine wS_set rfl rfl rfl (a_assign rfl rfl) ?_
                    refine wO_nil ?_
                    refine wC_cond (p := false) rfl (fun hc => absurd hc (by decide)) (fun _ => ?_)
                    refine wC_reg ?_
                    refine wS_set rfl rfl rfl (i_eql (p := false) rfl rfl (decide_eq_false (by omega))) ?_
                    refine wS_set rfl rfl rfl (a_assign rfl rfl) ?_
                    refine wO_nil ?_
                    refine wC_cond (p := false) rfl (fun hc => absurd hc (by decide)) (fun _ => ?_)
                    refine wC_seq ?_
                    refine wC_reg ?_
                    refine wS_set rfl rfl rfl (i_eql (p := false) rfl rfl (decide_eq_false (by omega))) ?_
                    refine wS_set rfl rfl rfl (a_assign rfl rfl) ?_
                    refine wO_nil ?_
                    refine wC_cond (p := false) rfl (fun hc => absurd hc (by decide)) (fun _ => ?_)
                    refine wC_seq ?_
                    refine wC_seq ?_
                    refine wC_reg ?_
                    refine wS_set rfl rfl rfl (i_eql (p := false) rfl rfl (decide_eq_false (by omega))) ?_
                    refine wS_set rfl rfl rfl (a_assign rfl rfl) ?_
                    refine wO_nil ?_
                    refine wC_cond (p := false) rfl (fun hc => absurd hc (by decide)) (fun _ => ?_)
                    refine wC_reg ?_
                    refine wS_set rfl rfl rfl (i_eql (p := true) rfl rfl (decide_eq_true (by omega))) ?_
                    refine wS_set rfl rfl rfl (a_assign rfl rfl) ?_
                    refine wO_nil ?_
                    refine wC_cond (p := true) rfl (fun _ => ?_) (fun hc => absurd hc (by decide))
                    refine wC_seq ?_
                    refine wC_reg ?_
                    refine wS_set rfl rfl rfl (a_move rfl rfl) ?_
                    refine wS_set rfl rfl rfl (b_lss (p := true) (b := 2) rfl rfl (decide_eq_true (by omega))) ?_
                    refine wO_nil ?_
                    refine wC_cond (p := true) rfl (fun _ => ?_) (fun hc => absurd hc (by decide))
                    refine wC_seq ?_
                    refine wC_reg ?_
                    refine wS_set rfl rfl rfl (a_assign rfl rfl) ?_
                    refine wO_nil ?_
                    refine wC_ret ?_
                    exact end_tmp rfl rfl
                  · omega
              · rw [show (if r.k = 4 ∨ r.k = 5 then (if r.l.length < 2 then false else validRs r.l (a + 1)) else if r.k = 6 then (if r.l.length ≠ 1 then false else validRs r.l (a + 1)) else false) = validRs (r.l.drop 0) (a + 1) by
                  rw [List.drop_zero]
                  rcases h456 with hk | hk | hk
                  · rw [if_pos (.inl hk), if_neg (by omega)]
                  · rw [if_pos (.inr hk), if_neg (by omega)]
                  · rw [if_neg (by omega), if_pos hk, if_neg (by omega)]]
                refine wC_seq ?_
                refine wC_reg ?_
                refine wS_set rfl rfl rfl (a_boxRx (by assumption) rfl (hT rfl) rfl rfl rfl) ?_
                refine wS_set rfl rfl rfl (a_assign rfl rfl) ?_
                refine wO_nil ?_
                refine wC_seq ?_
                refine wC_seq ?_
                refine wC_reg ?_
                refine wS_set rfl rfl rfl (a_move rfl rfl) ?_
                refine wS_set rfl rfl rfl (b_geq (p := false) (b := 30) rfl rfl (decide_eq_false (by omega))) ?_
                refine wS_set rfl rfl rfl (a_move rfl rfl) ?_
                refine wS_set rfl rfl rfl (a_fieldAddrA rfl (hT rfl) rfl rfl (hT rfl) rfl) ?_
                refine wS_set rfl rfl rfl (a_loadK rfl rfl (hT rfl) rfl) ?_
                refine wS_set rfl rfl rfl (i_neq (p := true) rfl rfl (decide_eq_true (by omega))) ?_
                refine wS_set rfl rfl rfl (a_move rfl rfl) ?_
                refine wS_set rfl rfl rfl (a_fieldAddrA rfl (hT rfl) rfl rfl (hT rfl) rfl) ?_
                refine wS_set rfl rfl rfl (a_loadSet (by assumption) rfl rfl (hT rfl) rfl rfl) ?_
                refine wS_set rfl rfl rfl (a_build0 (hT rfl) rfl rfl rfl rfl) ?_
                refine wS_set rfl rfl rfl (a_neSet (p := true) hw.set isW_zero (decide_eq_true (by assumption)) rfl rfl rfl) ?_
                refine wS_set rfl rfl rfl (a_pickT rfl rfl) ?_
                refine wS_set rfl rfl rfl (a_pickF rfl rfl) ?_
                refine wO_nil ?_
                refine wC_cond (p := false) rfl (fun hc => absurd hc (by decide)) (fun _ => ?_)
                refine wC_skip ?_
                refine wC_seq ?_
                refine wC_reg ?_
                refine wS_set rfl rfl rfl (a_fieldAddrA rfl (hT rfl) rfl rfl (hT rfl) rfl) ?_
                refine wS_set rfl rfl rfl (a_loadKids (by assumption) rfl rfl (hT rfl) rfl) ?_
                refine wS_set rfl rfl rfl (a_lenK rfl rfl (hT rfl) rfl) ?_
                refine wS_set rfl rfl rfl (a_assign rfl rfl) ?_
                refine wO_nil ?_
                refine wC_seq ?_
                refine wC_seq ?_
                refine wC_reg ?_
                refine wS_set rfl rfl rfl (a_fieldAddrA rfl (hT rfl) rfl rfl (hT rfl) rfl) ?_
                refine wS_set rfl rfl rfl (a_loadK rfl rfl (hT rfl) rfl) ?_
                refine wO_nil ?_
                refine wC_blockI (fun ρ => PinSt 63 [(1, .v (natV a)), (2, .addr 2 1 0), (5, natX .i64 r.l.length)] [(2, .box 1 (rxB r))] ρ) ?_ (fun ρ hi => ?_)
                · rcases h456 with hk | hk | hk
                  · refine wC_seq ?_
                    refine wC_seq ?_
                    refine wC_reg ?_
                    refine wS_set rfl rfl rfl (i_eql (p := false) rfl rfl (decide_eq_false (by omega))) ?_
                    refine wS_set rfl rfl rfl (a_assign rfl rfl) ?_
                    refine wO_nil ?_
                    refine wC_cond (p := false) rfl (fun hc => absurd hc (by decide)) (fun _ => ?_)
                    refine wC_reg ?_
                    refine wS_set rfl rfl rfl (i_eql (p := false) rfl rfl (decide_eq_false (by omega))) ?_
                    refine wS_set rfl rfl rfl (a_assign rfl rfl) ?_
                    refine wO_nil ?_
                    refine wC_cond (p := false) rfl (fun hc => absurd hc (by decide)) (fun _ => ?_)
                    refine wC_seq ?_
                    refine wC_reg ?_
                    refine wS_set rfl rfl rfl (i_eql (p := false) rfl rfl (decide_eq_false (by omega))) ?_
                    refine wS_set rfl rfl rfl (a_assign rfl rfl) ?_
                    refine wO_nil ?_
                    refine wC_cond (p := false) rfl (fun hc => absurd hc (by decide)) (fun _ => ?_)
                    refine wC_seq ?_
                    refine wC_seq ?_
                    refine wC_reg ?_
                    refine wS_set rfl rfl rfl (i_eql (p := true) rfl rfl (decide_eq_true (by omega))) ?_
                    refine wS_set rfl rfl rfl (a_assign rfl rfl) ?_
                    refine wO_nil ?_
                    refine wC_cond (p := true) rfl (fun _ => ?_) (fun hc => absurd hc (by decide))
                    refine wC_skip ?_
                    refine wC_cond (p := true) rfl (fun _ => ?_) (fun hc => absurd hc (by decide))
                    refine wC_seq ?_
                    refine wC_reg ?_
                    refine wS_set rfl rfl rfl (a_move rfl rfl) ?_
                    refine wS_set rfl rfl rfl (b_lss (p := false) (b := 2) rfl rfl (decide_eq_false (by omega))) ?_
                    refine wO_nil ?_
                    refine wC_cond (p := false) rfl (fun hc => absurd hc (by decide)) (fun _ => ?_)
                    refine wC_skip ?_
                    exact pinned_mk rfl ⟨rfl, rfl, rfl, trivial⟩ ⟨rfl, trivial⟩
                  · refine wC_seq ?_
                    refine wC_seq ?_
                    refine wC_reg ?_
                    refine wS_set rfl rfl rfl (i_eql (p := false) rfl rfl (decide_eq_false (by omega))) ?_
                    refine wS_set rfl rfl rfl (a_assign rfl rfl) ?_
                    refine wO_nil ?_
                    refine wC_cond (p := false) rfl (fun hc => absurd hc (by decide)) (fun _ => ?_)
                    refine wC_reg ?_
                    refine wS_set rfl rfl rfl (i_eql (p := false) rfl rfl (decide_eq_false (by omega))) ?_
                    refine wS_set rfl rfl rfl (a_assign rfl rfl) ?_
                    refine wO_nil ?_
                    refine wC_cond (p := false) rfl (fun hc => absurd hc (by decide)) (fun _ => ?_)
                    refine wC_seq ?_
                    refine wC_reg ?_
                    refine wS_set rfl rfl rfl (i_eql (p := false) rfl rfl (decide_eq_false (by omega))) ?_
                    refine wS_set rfl rfl rfl (a_assign rfl rfl) ?_
                    refine wO_nil ?_
                    refine wC_cond (p := false) rfl (fun hc => absurd hc (by decide)) (fun _ => ?_)
                    refine wC_seq ?_
                    refine wC_seq ?_
                    refine wC_reg ?_
                    refine wS_set rfl rfl rfl (i_eql (p := false) rfl rfl (decide_eq_false (by omega))) ?_
                    refine wS_set rfl rfl rfl (a_assign rfl rfl) ?_
                    refine wO_nil ?_
                    refine wC_cond (p := false) rfl (fun hc => absurd hc (by decide)) (fun _ => ?_)
                    refine wC_reg ?_
                    refine wS_set rfl rfl rfl (i_eql (p := true) rfl rfl (decide_eq_true (by omega))) ?_
                    refine wS_set rfl rfl rfl (a_assign rfl rfl) ?_
                    refine wO_nil ?_
                    refine wC_cond (p := true) rfl (fun _ => ?_) (fun hc => absurd hc (by decide))
                    refine wC_seq ?_
                    refine wC_reg ?_
                    refine wS_set rfl rfl rfl (a_move rfl rfl) ?_
                    refine wS_set rfl rfl rfl (b_lss (p := false) (b := 2) rfl rfl (decide_eq_false (by omega))) ?_
                    refine wO_nil ?_
                    refine wC_cond (p := false) rfl (fun hc => absurd hc (by decide)) (fun _ => ?_)
                    refine wC_skip ?_
                    exact pinned_mk rfl ⟨rfl, rfl, rfl, trivial⟩ ⟨rfl, trivial⟩
                  · refine wC_seq ?_
                    refine wC_seq ?_
                    refine wC_reg ?_
                    refine wS_set rfl rfl rfl (i_eql (p := false) rfl rfl (decide_eq_false (by omega))) ?_
                    refine wS_set rfl rfl rfl (a_assign rfl rfl) ?_
                    refine wO_nil ?_
                    refine wC_cond (p := false) rfl (fun hc => absurd hc (by decide)) (fun _ => ?_)
                    refine wC_reg ?_
                    refine wS_set rfl rfl rfl (i_eql (p := false) rfl rfl (decide_eq_false (by omega))) ?_
                    refine wS_set rfl rfl rfl (a_assign rfl rfl) ?_
                    refine wO_nil ?_
                    refine wC_cond (p := false) rfl (fun hc => absurd hc (by decide)) (fun _ => ?_)
                    refine wC_seq ?_
                    refine wC_reg ?_
                    refine wS_set rfl rfl rfl (i_eql (p := false) rfl rfl (decide_eq_false (by omega))) ?_
                    refine wS_set rfl rfl rfl (a_assign rfl rfl) ?_
                    refine wO_nil ?_
                    refine wC_cond (p := false) rfl (fun hc => absurd hc (by decide)) (fun _ => ?_)
                    refine wC_seq ?_
                    refine wC_seq ?_
                    refine wC_reg ?_
                    refine wS_set rfl rfl rfl (i_eql (p := false) rfl rfl (decide_eq_false (by omega))) ?_
                    refine wS_set rfl rfl rfl (a_assign rfl rfl) ?_
                    refine wO_nil ?_
                    refine wC_cond (p := false) rfl (fun hc => absurd hc (by decide)) (fun _ => ?_)
                    refine wC_reg ?_
                    refine wS_set rfl rfl rfl (i_eql (p := false) rfl rfl (decide_eq_false (by omega))) ?_
                    refine wS_set rfl rfl rfl (a_assign rfl rfl) ?_
                    refine wO_nil ?_
                    refine wC_cond (p := false) rfl (fun hc => absurd hc (by decide)) (fun _ => ?_)
                    refine wC_seq ?_
                    refine wC_reg ?_
                    refine wS_set rfl rfl rfl (i_eql (p := true) rfl rfl (decide_eq_true (by omega))) ?_
                    refine wS_set rfl rfl rfl (a_assign rfl rfl) ?_
                    refine wO_nil ?_
                    refine wC_cond (p := true) rfl (fun _ => ?_) (fun hc => absurd hc (by decide))
                    refine wC_seq ?_
                    refine wC_reg ?_
                    refine wS_set rfl rfl rfl (a_move rfl rfl) ?_
                    refine wS_set rfl rfl rfl (b_neq (p := false) (b := 1) rfl rfl (decide_eq_false (by omega))) ?_
                    refine wO_nil ?_
                    refine wC_cond (p := false) rfl (fun hc => absurd hc (by decide)) (fun _ => ?_)
                    refine wC_skip ?_
                    exact pinned_mk rfl ⟨rfl, rfl, rfl, trivial⟩ ⟨rfl, trivial⟩
                · replace hi := hi.form
                  obtain ⟨g, h, rfl⟩ := hi
                  refine wC_seq ?_
                  refine wC_seq ?_
                  refine wC_reg ?_
                  refine wS_set rfl rfl rfl (a_assign rfl rfl) ?_
                  refine wO_nil ?_
                  refine wC_block ?_
                  refine wC_loop (fun m ρ => ∃ i : Nat, i + m = r.l.length ∧ validRs (r.l.drop 0) (a + 1) = validRs (r.l.drop i) (a + 1) ∧
                      PinSt 63 [(1, .v (natV a)), (2, .addr 2 1 0), (5, natX .i64 r.l.length), (6, natX .i64 i)] [(2, .box 1 (rxB r))] ρ) (fun m ρ hi => ?_) r.l.length
                    ⟨0, by omega, rfl, pinned_mk rfl ⟨rfl, rfl, rfl, rfl, trivial⟩ ⟨rfl, trivial⟩⟩
                  obtain ⟨i, hm, hsh, hi⟩ := hi
                  replace hi := hi.form
                  clear h
                  obtain ⟨g, h, rfl⟩ := hi
                  by_cases hlt : i < r.l.length
                  · have hget : r.l[i]? = some (r.l[i]'hlt) := List.getElem?_eq_getElem hlt
                    have hwk : (r.l[i]'hlt).wf maxLen := hw.at hget
                    cases hv : validR (r.l[i]'hlt) (a + 1) with
                    | true =>
                      refine wC_seq ?_
                      refine wC_seq ?_
                      refine wC_reg ?_
                      refine wS_set rfl rfl rfl (a_move rfl rfl) ?_
                      refine wS_set rfl rfl rfl (a_move rfl rfl) ?_
                      refine wS_set rfl rfl rfl (b_lss (p := true) rfl rfl (decide_eq_true (by omega))) ?_
                      refine wO_nil ?_
                      refine wC_cond (p := true) rfl (fun _ => ?_) (fun hc => absurd hc (by decide))
                      refine wC_skip ?_
                      refine wC_seq ?_
                      refine wC_block ?_
                      refine wC_seq ?_
                      refine wC_reg ?_
                      refine wS_set rfl rfl rfl (a_fieldAddrA rfl (hT rfl) rfl rfl (hT rfl) rfl) ?_
                      refine wS_set rfl rfl rfl (a_loadKids (by assumption) rfl rfl (hT rfl) rfl) ?_
                      refine wS_set rfl rfl rfl (a_move rfl rfl) ?_
                      refine wS_set rfl rfl rfl (n_kid hget rfl rfl (hT rfl) rfl (hT rfl) rfl) ?_
                      refine wS_set rfl rfl rfl (a_loadRxR (by assumption) rfl (hT rfl) rfl rfl) ?_
                      refine wS_set rfl rfl rfl (a_move rfl rfl) ?_
                      refine wS_set rfl rfl rfl (n_add (b := 1) rfl rfl (by simp only [capN]; omega)) ?_
                      refine wS_set rfl rfl rfl (a_call rfl rfl fn30 rfl rfl (hv ▸ ih _ (List.getElem_mem hlt) hwk _ (by omega))) ?_
                      refine wS_set rfl rfl rfl (a_un rfl rfl) ?_
                      refine wO_nil ?_
                      refine wC_cond (p := false) rfl (fun hc => absurd hc (by decide)) (fun _ => ?_)
                      refine wC_skip ?_
                      refine wC_reg ?_
                      refine wS_set rfl rfl rfl (a_move rfl rfl) ?_
                      refine wS_set rfl rfl rfl (n_add (b := 1) rfl rfl (by simp only [capN]; omega)) ?_
                      refine wS_set rfl rfl rfl (a_assign rfl rfl) ?_
                      refine wO_nil ?_
                      exact ⟨m - 1, by omega, i + 1, by omega, by rw [hsh]; exact validRs_t hget hv, pinned_mk rfl ⟨rfl, rfl, rfl, rfl, trivial⟩ ⟨rfl, trivial⟩⟩
                    | false =>
                      rw [hsh, validRs_f hget hv]
                      refine wC_seq ?_
                      refine wC_seq ?_
                      refine wC_reg ?_
                      refine wS_set rfl rfl rfl (a_move rfl rfl) ?_
                      refine wS_set rfl rfl rfl (a_move rfl rfl) ?_
                      refine wS_set rfl rfl rfl (b_lss (p := true) rfl rfl (decide_eq_true (by omega))) ?_
                      refine wO_nil ?_
                      refine wC_cond (p := true) rfl (fun _ => ?_) (fun hc => absurd hc (by decide))
                      refine wC_skip ?_
                      refine wC_seq ?_
                      refine wC_block ?_
                      refine wC_seq ?_
                      refine wC_reg ?_
                      refine wS_set rfl rfl rfl (a_fieldAddrA rfl (hT rfl) rfl rfl (hT rfl) rfl) ?_
                      refine wS_set rfl rfl rfl (a_loadKids (by assumption) rfl rfl (hT rfl) rfl) ?_
                      refine wS_set rfl rfl rfl (a_move rfl rfl) ?_
                      refine wS_set rfl rfl rfl (n_kid hget rfl rfl (hT rfl) rfl (hT rfl) rfl) ?_
                      refine wS_set rfl rfl rfl (a_loadRxR (by assumption) rfl (hT rfl) rfl rfl) ?_
                      refine wS_set rfl rfl rfl (a_move rfl rfl) ?_
                      refine wS_set rfl rfl rfl (n_add (b := 1) rfl rfl (by simp only [capN]; omega)) ?_
                      refine wS_set rfl rfl rfl (a_call rfl rfl fn30 rfl rfl (hv ▸ ih _ (List.getElem_mem hlt) hwk _ (by omega))) ?_
                      refine wS_set rfl rfl rfl (a_un rfl rfl) ?_
                      refine wO_nil ?_
                      refine wC_cond (p := true) rfl (fun _ => ?_) (fun hc => absurd hc (by decide))
                      refine wC_seq ?_
                      refine wC_reg ?_
                      refine wS_set rfl rfl rfl (a_assign rfl rfl) ?_
                      refine wO_nil ?_
                      refine wC_ret ?_
                      exact end_tmp rfl rfl
                  · obtain rfl : i = r.l.length := by omega
                    rw [hsh, List.drop_eq_nil_of_le (Nat.le_refl _), validRs]
                    refine wC_seq ?_
                    refine wC_seq ?_
                    refine wC_reg ?_
                    refine wS_set rfl rfl rfl (a_move rfl rfl) ?_
                    refine wS_set rfl rfl rfl (a_move rfl rfl) ?_
                    refine wS_set rfl rfl rfl (b_lss (p := false) rfl rfl (decide_eq_false (by omega))) ?_
                    refine wO_nil ?_
                    refine wC_cond (p := false) rfl (fun hc => absurd hc (by decide)) (fun _ => ?_)
                    refine wC_exit ?_
                    refine wC_seq ?_
                    refine wC_reg ?_
                    refine wS_set rfl rfl rfl (a_assign rfl rfl) ?_
                    refine wO_nil ?_
                    refine wC_ret ?_
                    exact end_tmp rfl rfl
            · rw [if_neg (by omega), if_neg (by omega)]
              refine wC_seq ?_
              refine wC_reg ?_
              refine wS_set rfl rfl rfl (a_boxRx (by assumption) rfl (hT rfl) rfl rfl rfl) ?_
              refine wS_set rfl rfl rfl (a_assign rfl rfl) ?_
              refine wO_nil ?_
              refine wC_seq ?_
              refine wC_seq ?_
              refine wC_reg ?_
              refine wS_set rfl rfl rfl (a_move rfl rfl) ?_
              refine wS_set rfl rfl rfl (b_geq (p := false) (b := 30) rfl rfl (decide_eq_false (by omega))) ?_
              refine wS_set rfl rfl rfl (a_move rfl rfl) ?_
              refine wS_set rfl rfl rfl (a_fieldAddrA rfl (hT rfl) rfl rfl (hT rfl) rfl) ?_
              refine wS_set rfl rfl rfl (a_loadK rfl rfl (hT rfl) rfl) ?_
              refine wS_set rfl rfl rfl (i_neq (p := true) rfl rfl (decide_eq_true (by omega))) ?_
              refine wS_set rfl rfl rfl (a_move rfl rfl) ?_
              refine wS_set rfl rfl rfl (a_fieldAddrA rfl (hT rfl) rfl rfl (hT rfl) rfl) ?_
              refine wS_set rfl rfl rfl (a_loadSet (by assumption) rfl rfl (hT rfl) rfl rfl) ?_
              refine wS_set rfl rfl rfl (a_build0 (hT rfl) rfl rfl rfl rfl) ?_
              refine wS_set rfl rfl rfl (a_neSet (p := true) hw.set isW_zero (decide_eq_true (by assumption)) rfl rfl rfl) ?_
              refine wS_set rfl rfl rfl (a_pickT rfl rfl) ?_
              refine wS_set rfl rfl rfl (a_pickF rfl rfl) ?_
              refine wO_nil ?_
              refine wC_cond (p := false) rfl (fun hc => absurd hc (by decide)) (fun _ => ?_)
              refine wC_skip ?_
              refine wC_seq ?_
              refine wC_reg ?_
              refine wS_set rfl rfl rfl (a_fieldAddrA rfl (hT rfl) rfl rfl (hT rfl) rfl) ?_
              refine wS_set rfl rfl rfl (a_loadKids (by assumption) rfl rfl (hT rfl) rfl) ?_
              refine wS_set rfl rfl rfl (a_lenK rfl rfl (hT rfl) rfl) ?_
              refine wS_set rfl rfl rfl (a_assign rfl rfl) ?_
              refine wO_nil ?_
              refine wC_seq ?_
              refine wC_seq ?_
              refine wC_reg ?_
              refine wS_set rfl rfl rfl (a_fieldAddrA rfl (hT rfl) rfl rfl (hT rfl) rfl) ?_
              refine wS_set rfl rfl rfl (a_loadK rfl rfl (hT rfl) rfl) ?_
              refine wO_nil ?_
              refine wC_block ?_
              refine wC_seq ?_
              refine wC_seq ?_
              refine wC_reg ?_
              refine wS_set rfl rfl rfl (i_eql (p := false) rfl rfl (decide_eq_false (by omega))) ?_
              refine wS_set rfl rfl rfl (a_assign rfl rfl) ?_
              refine wO_nil ?_
              refine wC_cond (p := false) rfl (fun hc => absurd hc (by decide)) (fun _ => ?_)
              refine wC_reg ?_
              refine wS_set rfl rfl rfl (i_eql (p := false) rfl rfl (decide_eq_false (by omega))) ?_
              refine wS_set rfl rfl rfl (a_assign rfl rfl) ?_
              refine wO_nil ?_
              refine wC_cond (p := false) rfl (fun hc => absurd hc (by decide)) (fun _ => ?_)
              refine wC_seq ?_
              refine wC_reg ?_
              refine wS_set rfl rfl rfl (i_eql (p := false) rfl rfl (decide_eq_false (by omega))) ?_
              refine wS_set rfl rfl rfl (a_assign rfl rfl) ?_
              refine wO_nil ?_
              refine wC_cond (p := false) rfl (fun hc => absurd hc (by decide)) (fun _ => ?_)
              refine wC_seq ?_
              refine wC_seq ?_
              refine wC_reg ?_
              refine wS_set rfl rfl rfl (i_eql (p := false) rfl rfl (decide_eq_false (by omega))) ?_
              refine wS_set rfl rfl rfl (a_assign rfl rfl) ?_
              refine wO_nil ?_
              refine wC_cond (p := false) rfl (fun hc => absurd hc (by decide)) (fun _ => ?_)
              refine wC_reg ?_
              refine wS_set rfl rfl rfl (i_eql (p := false) rfl rfl (decide_eq_false (by omega))) ?_
              refine wS_set rfl rfl rfl (a_assign rfl rfl) ?_
              refine wO_nil ?_
              refine wC_cond (p := false) rfl (fun hc => absurd hc (by decide)) (fun _ => ?_)
              refine wC_seq ?_
              refine wC_reg ?_
              refine wS_set rfl rfl rfl (i_eql (p := false) rfl rfl (decide_eq_false (by omega))) ?_
              refine wS_set rfl rfl rfl (a_assign rfl rfl) ?_
              refine wO_nil ?_
              refine wC_cond (p := false) rfl (fun hc => absurd hc (by decide)) (fun _ => ?_)
              refine wC_seq ?_
              refine wC_reg ?_
              refine wS_set rfl rfl rfl (a_assign rfl rfl) ?_
              refine wO_nil ?_
              refine wC_ret ?_
              exact end_tmp rfl rfl
        · rw [if_pos ⟨h3, hz⟩]
          refine wC_seq ?_
          refine wC_reg ?_
          refine wS_set rfl rfl rfl (a_boxRx (by assumption) rfl (hT rfl) rfl rfl rfl) ?_
          refine wS_set rfl rfl rfl (a_assign rfl rfl) ?_
          refine wO_nil ?_
          refine wC_seq ?_
          refine wC_seq ?_
          refine wC_reg ?_
          refine wS_set rfl rfl rfl (a_move rfl rfl) ?_
          refine wS_set rfl rfl rfl (b_geq (p := false) (b := 30) rfl rfl (decide_eq_false (by omega))) ?_
          refine wS_set rfl rfl rfl (a_move rfl rfl) ?_
          refine wS_set rfl rfl rfl (a_fieldAddrA rfl (hT rfl) rfl rfl (hT rfl) rfl) ?_
          refine wS_set rfl rfl rfl (a_loadK rfl rfl (hT rfl) rfl) ?_
          refine wS_set rfl rfl rfl (i_neq (p := true) rfl rfl (decide_eq_true (by omega))) ?_
          refine wS_set rfl rfl rfl (a_move rfl rfl) ?_
          refine wS_set rfl rfl rfl (a_fieldAddrA rfl (hT rfl) rfl rfl (hT rfl) rfl) ?_
          refine wS_set rfl rfl rfl (a_loadSet (by assumption) rfl rfl (hT rfl) rfl rfl) ?_
          refine wS_set rfl rfl rfl (a_build0 (hT rfl) rfl rfl rfl rfl) ?_
          refine wS_set rfl rfl rfl (a_neSet (p := false) hw.set isW_zero (decide_eq_false (by assumption)) rfl rfl rfl) ?_
          refine wS_set rfl rfl rfl (a_pickT rfl rfl) ?_
          refine wS_set rfl rfl rfl (a_pickF rfl rfl) ?_
          refine wO_nil ?_
          refine wC_cond (p := true) rfl (fun _ => ?_) (fun hc => absurd hc (by decide))
          refine wC_seq ?_
          refine wC_reg ?_
          refine wS_set rfl rfl rfl (a_assign rfl rfl) ?_
          refine wO_nil ?_
          refine wC_ret ?_
          exact end_tmp rfl rfl

set_option maxRecDepth 100000 in
theorem ev12 {r : Rx} {m : Nat} (hw : r.wf maxLen) (hm : m ≤ 200) : FnEv tab ext 12 [.v (rxV r), .v (natV m)] [] (.ret [boolV (decide (0 ≤ shal r 0 ((m + 1 : Nat) : Int)))], []) := by
  refine fn_go _ no12 fn12 rfl rfl rfl ?_
  refine wC_seq ?_
  refine wC_reg ?_
  refine wS_set rfl rfl rfl (a_boxRx (by assumption) rfl (hT rfl) rfl rfl rfl) ?_
  refine wS_set rfl rfl rfl (a_assign rfl rfl) ?_
  refine wO_nil ?_
  refine wC_seq ?_
  refine wC_reg ?_
  refine wS_set rfl rfl rfl (a_loadRx (by assumption) rfl rfl (hT rfl) rfl rfl) ?_
  refine wS_set rfl rfl rfl (a_move rfl rfl) ?_
  refine wS_set rfl rfl rfl (n_add (b := 1) rfl rfl (by simp only [capN]; omega)) ?_
  refine wS_set rfl rfl rfl (a_call rfl rfl fn28 rfl rfl (ev28 r hw 0 ((m + 1 : Nat) : Int) (by omega) (by omega))) ?_
  refine wS_set rfl rfl rfl (i_geq rfl rfl rfl) ?_
  refine wS_set rfl rfl rfl (a_assign rfl rfl) ?_
  refine wO_nil ?_
  refine wC_ret ?_
  exact end_tmp rfl rfl

set_option maxRecDepth 100000 in
theorem ev14 {r : Rx} (hw : r.wf maxLen) : FnEv tab ext 14 [.v (rxV r)] [] (.ret [boolV (validP r 30)], []) := by
  refine fn_go _ no14 fn14 rfl rfl rfl ?_
  refine wC_seq ?_
  refine wC_reg ?_
  refine wS_set rfl rfl rfl (a_boxRx (by assumption) rfl (hT rfl) rfl rfl rfl) ?_
  refine wS_set rfl rfl rfl (a_assign rfl rfl) ?_
  refine wO_nil ?_
  refine wC_seq ?_
  refine wC_reg ?_
  refine wS_set rfl rfl rfl (a_loadRx (by assumption) rfl rfl (hT rfl) rfl rfl) ?_
  refine wS_set rfl rfl rfl (a_call rfl rfl fn29 rfl rfl (ev29 r hw 30 (by omega))) ?_
  refine wS_set rfl rfl rfl (a_assign rfl rfl) ?_
  refine wO_nil ?_
  refine wC_ret ?_
  exact end_tmp rfl rfl
set_option maxRecDepth 100000 in
theorem ev15 {r : Rx} (hw : r.wf maxLen) : FnEv tab ext 15 [.v (rxV r)] [] (.ret [boolV (validR r 0)], []) := by
  refine fn_go _ no15 fn15 rfl rfl rfl ?_
  refine wC_seq ?_
  refine wC_reg ?_
  refine wS_set rfl rfl rfl (a_boxRx (by assumption) rfl (hT rfl) rfl rfl rfl) ?_
  refine wS_set rfl rfl rfl (a_assign rfl rfl) ?_
  refine wO_nil ?_
  refine wC_seq ?_
  refine wC_reg ?_
  refine wS_set rfl rfl rfl (a_loadRx (by assumption) rfl rfl (hT rfl) rfl rfl) ?_
  refine wS_set rfl rfl rfl (a_call rfl rfl fn30 rfl rfl (ev30 r hw 0 (by omega))) ?_
  refine wS_set rfl rfl rfl (a_assign rfl rfl) ?_
  refine wO_nil ?_
  refine wC_ret ?_
  exact end_tmp rfl rfl

set_option maxRecDepth 100000 in
theorem ev3 {r : Rx} (hw : r.wf maxLen) : FnEv tab ext 3 [.v (rxV r)] [] (.ret [boolV true], []) := by
  refine fn_go _ no3 fn3 rfl rfl rfl ?_
  have e := valid_same r 30 (by omega)
  by_cases hf : 0 ≤ shal r 0 ((100 + 1 : Nat) : Int)
  · refine wC_seq ?_
    refine wC_reg ?_
    refine wS_set rfl rfl rfl (a_boxRx (by assumption) rfl (hT rfl) rfl rfl rfl) ?_
    refine wS_set rfl rfl rfl (a_assign rfl rfl) ?_
    refine wO_nil ?_
    refine wC_seq ?_
    refine wC_seq ?_
    refine wC_reg ?_
    refine wS_set rfl rfl rfl (a_loadRx (by assumption) rfl rfl (hT rfl) rfl rfl) ?_
    refine wS_set rfl rfl rfl (a_call rfl rfl fn12 rfl rfl ((decide_eq_true hf) ▸ ev12 (m := 100) hw (by omega))) ?_
    refine wS_set rfl rfl rfl (a_un rfl rfl) ?_
    refine wO_nil ?_
    refine wC_cond (p := false) rfl (fun hc => absurd hc (by decide)) (fun _ => ?_)
    refine wC_skip ?_
    refine wC_seq ?_
    refine wC_regD (by kernel_rfl) ?_
    refine wS_set rfl rfl rfl (a_call rfl rfl fn13 rfl rfl (ev13)) ?_
    refine wS_set rfl rfl rfl (a_move rfl rfl) ?_
    refine wS_set rfl rfl rfl (a_loadRx (by assumption) rfl rfl (hT rfl) rfl rfl) ?_
    refine wS_set rfl rfl rfl (a_call rfl rfl fn14 rfl rfl (ev14 hw)) ?_
    refine wS_set rfl rfl rfl (a_loadRx (by assumption) rfl rfl (hT rfl) rfl rfl) ?_
    refine wS_set rfl rfl rfl (a_call rfl rfl fn15 rfl rfl (ev15 hw)) ?_
    refine wS_set rfl rfl rfl (a_binBe (p := true) rfl rfl (hT rfl) rfl (by rw [e]; simp)) ?_
    refine wS_set rfl rfl rfl (a_pickT rfl rfl) ?_
    refine wS_set rfl rfl rfl (a_assign rfl rfl) ?_
    refine wO_nil ⟨rfl, by kernel_rfl, ?_⟩
    refine wC_ret ?_
    exact end_tmp rfl rfl
  · refine wC_seq ?_
    refine wC_reg ?_
    refine wS_set rfl rfl rfl (a_boxRx (by assumption) rfl (hT rfl) rfl rfl rfl) ?_
    refine wS_set rfl rfl rfl (a_assign rfl rfl) ?_
    refine wO_nil ?_
    refine wC_seq ?_
    refine wC_seq ?_
    refine wC_reg ?_
    refine wS_set rfl rfl rfl (a_loadRx (by assumption) rfl rfl (hT rfl) rfl rfl) ?_
    refine wS_set rfl rfl rfl (a_call rfl rfl fn12 rfl rfl ((decide_eq_false hf) ▸ ev12 (m := 100) hw (by omega))) ?_
    refine wS_set rfl rfl rfl (a_un rfl rfl) ?_
    refine wO_nil ?_
    refine wC_cond (p := true) rfl (fun _ => ?_) (fun hc => absurd hc (by decide))
    refine wC_seq ?_
    refine wC_reg ?_
    refine wS_set rfl rfl rfl (a_call rfl rfl fn13 rfl rfl (ev13)) ?_
    refine wS_set rfl rfl rfl (a_assign rfl rfl) ?_
    refine wO_nil ?_
    refine wC_ret ?_
    exact end_tmp rfl rfl

end Go.Proofs.YtjppkpjlbbkdnaaDoor
