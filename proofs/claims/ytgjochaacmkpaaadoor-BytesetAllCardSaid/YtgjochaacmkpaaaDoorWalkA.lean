/-
  What is proved here: what a set's function yields, over the model; what the functions of the set package answer; the law over the evaluator; what its arguments stand for. Conditions: those that stand at each theorem.
-/
import Derived.Test.YtgjochaacmkpaaaDoorEvD
import Derived.Test.YtgjochaacmkpaaaDoorRows
import Derived.RangeFuncLeaves
import Derived.WalkKit
import Derived.OwnWalkIn
import Derived.TacticsInMore
import Derived.LoopNIn
import Derived.LoopIn
import Derived.Shelf.Spec.TrailingZeros
import Derived.Test.YtgjochaacmkpaaaDoorTie
import Derived.Test.YtgjochaacmkpaaaDoorCards
import Derived.ProofKit
import Derived.LaidMore
import Derived.OpenShut
import Derived.Stop.Joined
import Derived.SevenTiedAt

namespace Go.Proofs.YtgjochaacmkpaaaDoor
open Go Go.Dv Go.RowKit Go.Shelf

def laysTz_ren : Go.Shelf.Ren := ⟨fun | 29 => 11 | n => n, fun | 22 => 22 | 3 => 3 | 4 => 4 | 25 => 41 | 54 => 42 | 0 => 0 | 5 => 5 | n => n, fun | 1 => 0 | n => n⟩
theorem laysTz : Go.Proofs.Lays7.n29 Tryd.prog laysTz_ren := {
  mixed := by kernel_rfl
  f29 := Tryd.func11.trans (congrArg some (by kernel_rfl))
  t0 := Tryd.underlying0
  a0 := Tryd.isAgg0
  z0 := Tryd.sizeOf0
  v0 := Tryd.zeroValue0
  i0 := by kernel_rfl
  t3 := Tryd.underlying3
  a3 := Tryd.isAgg3
  z3 := Tryd.sizeOf3
  v3 := Tryd.zeroValue3
  i3 := by kernel_rfl
  t4 := Tryd.underlying4
  a4 := Tryd.isAgg4
  z4 := Tryd.sizeOf4
  v4 := Tryd.zeroValue4
  i4 := by kernel_rfl
  t5 := Tryd.underlying5
  a5 := Tryd.isAgg5
  z5 := Tryd.sizeOf5
  v5 := Tryd.zeroValue5
  i5 := by kernel_rfl
  t22 := Tryd.underlying22
  a22 := Tryd.isAgg22
  z22 := Tryd.sizeOf22
  v22 := Tryd.zeroValue22
  i22 := by kernel_rfl
  t25 := Tryd.underlying41
  a25 := Tryd.isAgg41
  z25 := Tryd.sizeOf41
  v25 := Tryd.zeroValue41
  i25 := by kernel_rfl
  t54 := Tryd.underlying42
  a54 := Tryd.isAgg42
  z54 := Tryd.sizeOf42
  g1 := by kernel_rfl }
theorem tz64 (x : Nat) (hx : x < 18446744073709551616) (w : World) (hT : x ≠ 0 → TabAt 0 Lib.deBruijn64tab w) :
    Calls Tryd.prog 11 #[.int .u64 x] w fun e w' => e = .returned (.int .i64 (Lib.ctz 64 x)) ∧ w' = w := Any7.bits_TrailingZeros64 laysTz x hx w hT

theorem idx0 (a b c d : Int) (w : World) : (Instr.index 24 (.agg #[.int .u64 a, .int .u64 b, .int .u64 c, .int .u64 d]) (.int .i64 0)).run Tryd.prog w = .ok (.int .u64 a) w := by kernel_rfl
theorem idx1 (a b c d : Int) (w : World) : (Instr.index 24 (.agg #[.int .u64 a, .int .u64 b, .int .u64 c, .int .u64 d]) (.int .i64 1)).run Tryd.prog w = .ok (.int .u64 b) w := by kernel_rfl
theorem idx2 (a b c d : Int) (w : World) : (Instr.index 24 (.agg #[.int .u64 a, .int .u64 b, .int .u64 c, .int .u64 d]) (.int .i64 2)).run Tryd.prog w = .ok (.int .u64 c) w := by kernel_rfl
theorem idx3 (a b c d : Int) (w : World) : (Instr.index 24 (.agg #[.int .u64 a, .int .u64 b, .int .u64 c, .int .u64 d]) (.int .i64 3)).run Tryd.prog w = .ok (.int .u64 d) w := by kernel_rfl



set_option maxRecDepth 100000 in
set_option maxHeartbeats 2000000 in
theorem iter_calls (l : Nat) (ad : Addr) (hsp : ad.spot = none) (ws : List Nat) (hl : ws.length = 4) (hw : ∀ w ∈ ws, w < 18446744073709551616) (J Jx : List Value → World → Prop) (W : World)
    (hc : ∀ (j w : Nat), ws[j]? = some w → W.cell? ⟨ad.block, ad.off + j, none⟩ = some (.int .u64 (w : Int)))
    (hJ : ∀ pre W1, J pre W1 → TabAt 0 Lib.deBruijn64tab W1)
    (hY : ∀ pre x W1, J pre W1 → (∃ post, pre ++ x :: post = (allBits ws 0).map u8V) → YieldAt Fence.wide 0 Tryd.prog l #[x] W1 fun e W' => (e = .returned (.bool true) ∧ J (pre ++ [x]) W') ∨ (e = .returned (.bool false) ∧ Jx (pre ++ [x]) W'))
    (h0 : J [] W) : CallsIn Fence.wide 0 Tryd.prog 10 #[.func (.yield l) #[] #[], .pointer (some ad)] W fun e W' => (∃ v, e = .returned v) ∧ (J ((allBits ws 0).map u8V) W' ∨ ∃ pre, Jx pre W') := by
  match ws, hl with
  | [a0, a1, a2, a3], _ =>
  obtain ⟨b, o, s⟩ := ad
  simp only at hsp
  subst hsp
  have c0 : W.cell? ⟨b, o, none⟩ = some (.int .u64 (a0 : Int)) := hc 0 a0 rfl
  have c1 := hc 1 a1 rfl
  have c2 := hc 2 a2 rfl
  have c3 := hc 3 a3 rfl
  simp only at c1 c2 c3
  refine callsIn_of_wp Tryd.func10 rfl trivial ?_ rfl
  simp only [Tryd.ntmps10, List.size_toArray, List.length_cons, List.length_nil, Nat.reduceAdd, Nat.reduceSub, Array.replicate_succ, Array.replicate_zero, List.push_toArray, List.append_toArray, List.nil_append, List.cons_append]
  gi_wp2
  gi_loopw [6] (fun i wr => ∃ k : Nat, k ≤ 4 ∧ i = .int .i64 k ∧ ∃ pre, J pre wr ∧ pre ++ (allBits ([a0, a1, a2, a3].drop k) k).map u8V = (allBits [a0, a1, a2, a3] 0).map u8V)
    (fun i _ => 4 - (intOf i).toNat)
  case atStart => exact ⟨0, Nat.zero_le _, rfl, [], h0, rfl⟩
  case round =>
    obtain ⟨k, hk, rfl, pre, hJs, hpre⟩ := hrel
    clear c0 c1 c2 c3 hc
    match k, hk with
    | 4, _ =>
      gi_wp2
      go_end0
      refine ⟨⟨_, rfl⟩, .inl ?_⟩
      have e : pre = (allBits [a0, a1, a2, a3] 0).map u8V := by rw [← hpre]; simp [allBits]
      rw [← e]; exact hJs
    | 0, _ =>
      have hlt : a0 < 18446744073709551616 := hw a0 (by simp)
      gi_wp2_with (simp only [idx0, idx1, idx2, idx3])
      gi_loopw [4] (fun v wr => ∃ x : Nat, x < 18446744073709551616 ∧ v = .int .u64 x ∧ ∃ pre, J pre wr ∧ pre ++ ((wbits x).map fun j => u8V (64 * 0 + j)) ++ (allBits ([a0, a1, a2, a3].drop 1) 1).map u8V = (allBits [a0, a1, a2, a3] 0).map u8V)
        (fun v _ => (intOf v).toNat)
      case atStart => exact ⟨a0, hlt, rfl, pre, hJs, by rw [List.append_assoc, ← hpre]; simp [allBits, List.map_map, Function.comp_def]⟩
      case round =>
        obtain ⟨x, hx, rfl, pre1, hJ1, hpre1⟩ := hrel
        by_cases hx0 : x = 0
        · subst hx0
          gi_wp2
          go_roundw
          case rel => exact ⟨1, by omega, rfl, pre1, hJ1, by rw [← hpre1]; simp [wbits_zero]⟩
          case measure => simp [intOf]
        · obtain ⟨hb1, hb2, hb3⟩ := wbits_step hx0 hx
          generalize hcz : Lib.ctz 64 x = c at hb1 hb2
          have hneq : ((x : Int) != 0) = true := by simp [hx0]
          rw [hb1, List.map_cons] at hpre1
          obtain ⟨fn, tmps, assign, body, hy, hR⟩ := hY pre1 (u8V (64 * 0 + c)) _ hJ1 ⟨_, by rw [← hpre1, List.append_assoc, List.cons_append]⟩
          have hT := hJ _ _ hJ1
          rw [show u8V (64 * 0 + c) = .int .u8 ((c : Int)) by simp [u8V]] at hy
          gi_wp2_with (refine ⟨trivial, rfl, ?_⟩; gi_at_call 11; refine (callsIn_wide.2 (tz64 x hx _ fun _ => hT)).mono ?_; rintro e w' ⟨rfl, rfl⟩)
          refine ⟨rfl, hR.mono ?_⟩
          rintro e W3 (⟨rfl, hJ3⟩ | ⟨rfl, hJx3⟩)
          · have hbw : bits .and .u64 (x : Int) ((x : Int) - 1) = ((x &&& (x - 1) : Nat) : Int) := by
              rw [show (x : Int) - 1 = ((x - 1 : Nat) : Int) by omega, bits_and_u64_nat x (x - 1) hx (by omega)]
            gi_wp2
            go_roundw
            case rel => exact ⟨x &&& (x - 1), by omega, rfl, _, hJ3, by rw [← hpre1]; simp⟩
            case measure => simp [intOf]; omega
          · gi_wp2
            refine bodyPost_ret (results_none rfl _ _ _) rfl ?_
            exact ⟨⟨_, rfl⟩, .inr ⟨_, hJx3⟩⟩
    | 1, _ =>
      have hlt : a1 < 18446744073709551616 := hw a1 (by simp)
      gi_wp2_with (simp only [idx0, idx1, idx2, idx3])
      gi_loopw [4] (fun v wr => ∃ x : Nat, x < 18446744073709551616 ∧ v = .int .u64 x ∧ ∃ pre, J pre wr ∧ pre ++ ((wbits x).map fun j => u8V (64 * 1 + j)) ++ (allBits ([a0, a1, a2, a3].drop 2) 2).map u8V = (allBits [a0, a1, a2, a3] 0).map u8V)
        (fun v _ => (intOf v).toNat)
      case atStart => exact ⟨a1, hlt, rfl, pre, hJs, by rw [List.append_assoc, ← hpre]; simp [allBits, List.map_map, Function.comp_def]⟩
      case round =>
        obtain ⟨x, hx, rfl, pre1, hJ1, hpre1⟩ := hrel
        by_cases hx0 : x = 0
        · subst hx0
          gi_wp2
          go_roundw
          case rel => exact ⟨2, by omega, rfl, pre1, hJ1, by rw [← hpre1]; simp [wbits_zero]⟩
          case measure => simp [intOf]
        · obtain ⟨hb1, hb2, hb3⟩ := wbits_step hx0 hx
          generalize hcz : Lib.ctz 64 x = c at hb1 hb2
          have hneq : ((x : Int) != 0) = true := by simp [hx0]
          rw [hb1, List.map_cons] at hpre1
          obtain ⟨fn, tmps, assign, body, hy, hR⟩ := hY pre1 (u8V (64 * 1 + c)) _ hJ1 ⟨_, by rw [← hpre1, List.append_assoc, List.cons_append]⟩
          have hT := hJ _ _ hJ1
          rw [show u8V (64 * 1 + c) = .int .u8 (64 + (c : Int)) by simp [u8V]] at hy
          gi_wp2_with (refine ⟨trivial, rfl, ?_⟩; gi_at_call 11; refine (callsIn_wide.2 (tz64 x hx _ fun _ => hT)).mono ?_; rintro e w' ⟨rfl, rfl⟩)
          refine ⟨rfl, hR.mono ?_⟩
          rintro e W3 (⟨rfl, hJ3⟩ | ⟨rfl, hJx3⟩)
          · have hbw : bits .and .u64 (x : Int) ((x : Int) - 1) = ((x &&& (x - 1) : Nat) : Int) := by
              rw [show (x : Int) - 1 = ((x - 1 : Nat) : Int) by omega, bits_and_u64_nat x (x - 1) hx (by omega)]
            gi_wp2
            go_roundw
            case rel => exact ⟨x &&& (x - 1), by omega, rfl, _, hJ3, by rw [← hpre1]; simp⟩
            case measure => simp [intOf]; omega
          · gi_wp2
            refine bodyPost_ret (results_none rfl _ _ _) rfl ?_
            exact ⟨⟨_, rfl⟩, .inr ⟨_, hJx3⟩⟩
    | 2, _ =>
      have hlt : a2 < 18446744073709551616 := hw a2 (by simp)
      gi_wp2_with (simp only [idx0, idx1, idx2, idx3])
      gi_loopw [4] (fun v wr => ∃ x : Nat, x < 18446744073709551616 ∧ v = .int .u64 x ∧ ∃ pre, J pre wr ∧ pre ++ ((wbits x).map fun j => u8V (64 * 2 + j)) ++ (allBits ([a0, a1, a2, a3].drop 3) 3).map u8V = (allBits [a0, a1, a2, a3] 0).map u8V)
        (fun v _ => (intOf v).toNat)
      case atStart => exact ⟨a2, hlt, rfl, pre, hJs, by rw [List.append_assoc, ← hpre]; simp [allBits, List.map_map, Function.comp_def]⟩
      case round =>
        obtain ⟨x, hx, rfl, pre1, hJ1, hpre1⟩ := hrel
        by_cases hx0 : x = 0
        · subst hx0
          gi_wp2
          go_roundw
          case rel => exact ⟨3, by omega, rfl, pre1, hJ1, by rw [← hpre1]; simp [wbits_zero]⟩
          case measure => simp [intOf]
        · obtain ⟨hb1, hb2, hb3⟩ := wbits_step hx0 hx
          generalize hcz : Lib.ctz 64 x = c at hb1 hb2
          have hneq : ((x : Int) != 0) = true := by simp [hx0]
          rw [hb1, List.map_cons] at hpre1
          obtain ⟨fn, tmps, assign, body, hy, hR⟩ := hY pre1 (u8V (64 * 2 + c)) _ hJ1 ⟨_, by rw [← hpre1, List.append_assoc, List.cons_append]⟩
          have hT := hJ _ _ hJ1
          rw [show u8V (64 * 2 + c) = .int .u8 (128 + (c : Int)) by simp [u8V]] at hy
          gi_wp2_with (refine ⟨trivial, rfl, ?_⟩; gi_at_call 11; refine (callsIn_wide.2 (tz64 x hx _ fun _ => hT)).mono ?_; rintro e w' ⟨rfl, rfl⟩)
          refine ⟨rfl, hR.mono ?_⟩
          rintro e W3 (⟨rfl, hJ3⟩ | ⟨rfl, hJx3⟩)
          · have hbw : bits .and .u64 (x : Int) ((x : Int) - 1) = ((x &&& (x - 1) : Nat) : Int) := by
              rw [show (x : Int) - 1 = ((x - 1 : Nat) : Int) by omega, bits_and_u64_nat x (x - 1) hx (by omega)]
            gi_wp2
            go_roundw
            case rel => exact ⟨x &&& (x - 1), by omega, rfl, _, hJ3, by rw [← hpre1]; simp⟩
            case measure => simp [intOf]; omega
          · gi_wp2
            refine bodyPost_ret (results_none rfl _ _ _) rfl ?_
            exact ⟨⟨_, rfl⟩, .inr ⟨_, hJx3⟩⟩
    | 3, _ =>
      have hlt : a3 < 18446744073709551616 := hw a3 (by simp)
      gi_wp2_with (simp only [idx0, idx1, idx2, idx3])
      gi_loopw [4] (fun v wr => ∃ x : Nat, x < 18446744073709551616 ∧ v = .int .u64 x ∧ ∃ pre, J pre wr ∧ pre ++ ((wbits x).map fun j => u8V (64 * 3 + j)) ++ (allBits ([a0, a1, a2, a3].drop 4) 4).map u8V = (allBits [a0, a1, a2, a3] 0).map u8V)
        (fun v _ => (intOf v).toNat)
      case atStart => exact ⟨a3, hlt, rfl, pre, hJs, by rw [List.append_assoc, ← hpre]; simp [allBits, List.map_map, Function.comp_def]⟩
      case round =>
        obtain ⟨x, hx, rfl, pre1, hJ1, hpre1⟩ := hrel
        by_cases hx0 : x = 0
        · subst hx0
          gi_wp2
          go_roundw
          case rel => exact ⟨4, by omega, rfl, pre1, hJ1, by rw [← hpre1]; simp [wbits_zero]⟩
          case measure => simp [intOf]
        · obtain ⟨hb1, hb2, hb3⟩ := wbits_step hx0 hx
          generalize hcz : Lib.ctz 64 x = c at hb1 hb2
          have hneq : ((x : Int) != 0) = true := by simp [hx0]
          rw [hb1, List.map_cons] at hpre1
          obtain ⟨fn, tmps, assign, body, hy, hR⟩ := hY pre1 (u8V (64 * 3 + c)) _ hJ1 ⟨_, by rw [← hpre1, List.append_assoc, List.cons_append]⟩
          have hT := hJ _ _ hJ1
          rw [show u8V (64 * 3 + c) = .int .u8 (192 + (c : Int)) by simp [u8V]] at hy
          gi_wp2_with (refine ⟨trivial, rfl, ?_⟩; gi_at_call 11; refine (callsIn_wide.2 (tz64 x hx _ fun _ => hT)).mono ?_; rintro e w' ⟨rfl, rfl⟩)
          refine ⟨rfl, hR.mono ?_⟩
          rintro e W3 (⟨rfl, hJ3⟩ | ⟨rfl, hJx3⟩)
          · have hbw : bits .and .u64 (x : Int) ((x : Int) - 1) = ((x &&& (x - 1) : Nat) : Int) := by
              rw [show (x : Int) - 1 = ((x - 1 : Nat) : Int) by omega, bits_and_u64_nat x (x - 1) hx (by omega)]
            gi_wp2
            go_roundw
            case rel => exact ⟨x &&& (x - 1), by omega, rfl, _, hJ3, by rw [← hpre1]; simp⟩
            case measure => simp [intOf]; omega
          · gi_wp2
            refine bodyPost_ret (results_none rfl _ _ _) rfl ?_
            exact ⟨⟨_, rfl⟩, .inr ⟨_, hJx3⟩⟩

end Go.Proofs.YtgjochaacmkpaaaDoor

namespace Go.Proofs.YtgjochaacmkpaaaDoor
open Go Go.Dv Go.RowKit Go.Shelf

noncomputable def tab0 : Lite := mkLite Tryd.prog [] [(24, [1, 1, 1, 1])]

theorem closed : closedB Tryd.prog = true := by kernel_rfl

theorem tab0Ok : LiteOk Tryd.prog tab0 := by
  refine mk_ok Tryd.checked.mixed closed ?_
  intro t ks h xs ys us vs b w he h1 h2 l1 l2 r1 r2
  have guard : Tryd.prog.eqGuardType Tryd.prog.depth 24 = false := by kernel_rfl
  simp only [List.lookup] at h
  split at h
  · rename_i hh
    obtain rfl : t = 24 := by simpa using hh
    cases h
    exact ⟨equal_ints (n := 4) (i := Tryd.t22) Tryd.underlying24 Tryd.underlying22 Tryd.type22 rfl xs ys us vs b w he h1 h2 l1 l2 r1 r2, guard⟩
  · cases h

noncomputable def tab : Lite := tab0.withIts [(7, (10, 4))] [] (tabMem 0 Lib.deBruijn64tab)

theorem all_ev (cs : List V) (h : cs.length = 4) : ∃ ρ', evalCode { tab0 with gm := fun _ _ => none } (fun _ _ _ => none) 1 (Tryd.f7.body.getD .skip) (enterSt Tryd.f7 [.v (.agg cs)] []) = some (.ret, ρ') ∧ ρ'.sl 2 = .clo 10 [.addr 1 1 0] ∧ ρ'.ob 1 = .box 1 (cs.map .v) ∧ 1 < Tryd.f7.ntmps := by
  match cs, h with
  | [a, b, c, d], _ => exact ⟨((evalCode { tab0 with gm := fun _ _ => none } (fun _ _ _ => none) 1 (Tryd.f7.body.getD .skip) (enterSt Tryd.f7 [.v (.agg [a, b, c, d])] [])).getD (.ret, enterSt Tryd.f7 [] [])).2,
      by kernel_rfl, by kernel_rfl, by kernel_rfl, by decide⟩

theorem tabOk : LiteOk Tryd.prog tab := by
  refine tab0Ok.withIts _ _ _ ?_ ?_
  · intro g it h cs vs mu w hl hr hm
    simp only [List.lookup] at h
    split at h
    · rename_i hh
      obtain rfl : g = 7 := by simpa using hh
      cases h
      exact its_of tab0Ok (fn := Tryd.f7) (cd := Tryd.f7.body.getD .skip) (r := 2) (s := 1) (gn := 1) (n := 4) (by kernel_rfl) (by kernel_rfl) (by kernel_rfl) (by decide) all_ev cs vs mu w hl hr hm
    · cases h
  · intro f hf
    simp at hf

/-! ### the function over a set's elements -/
theorem tab_gm {b o : Nat} {v : Value} (h : tab.gm b o = some v) : b = 0 ∧ (Lib.deBruijn64tab[o]?).map u8V = some v := by
  have h : (if b = 0 then (Lib.deBruijn64tab[o]?).map u8V else none) = some v := h
  split at h
  · rename_i e; exact ⟨e, h⟩
  · cases h
theorem gm_tab {o n : Nat} (h : Lib.deBruijn64tab[o]? = some n) : tab.gm 0 o = some (u8V n) := by
  show (if 0 = 0 then (Lib.deBruijn64tab[o]?).map u8V else none) = _
  rw [if_pos rfl, h]; rfl

theorem itvOk : ItOk Tryd.prog tab (itvOf 10) := by
  intro g caps xs h G H lb w hl hr hnu
  unfold itvOf at h
  split at h
  · rename_i hg
    subst hg
    split at h
    · rename_i cs
      split at h
      · rename_i ws hws
        split at h
        · rename_i h4
          cases h
          obtain ⟨w1, w2, w3⟩ := wordsOf_spec hws
          match lb, hl with
          | [u], _ =>
            have hx := hr 0 (.ro cs) u rfl rfl
            cases hx with
            | @ro _ ad hf hs hh =>
              have hsp : ad.spot = none := hs (by intro e; rw [e, h4] at w1; cases w1)
              refine ⟨fun l J Jx W hb hJ hJx hg hY h0 => ?_, fun args w => ?_⟩
              · refine iter_calls l ad hsp ws h4 w2 J Jx W (fun j w hj => ?_) (fun pre W1 hj o ho => ?_) hY h0
                · obtain ⟨u, hu, hv⟩ := hh j _ (w3 j w hj)
                  cases hv
                  have hc := hnu _ _ _ hu
                  exact (hb.cell (p := ⟨ad.block, ad.off + j, none⟩) (cell_lt hc)).trans hc
                · have e : Lib.deBruijn64tab[o]? = some (Lib.deBruijn64tab.getD o 0) := by
                    rw [List.getD_eq_getElem?_getD, List.getElem?_eq_getElem ho]; rfl
                  exact hg pre W1 hj 0 o _ (gm_tab e)
              · have hnone : Tryd.f10.body.isNone = false := by kernel_rfl
                have h3 : (Tryd.f10.name == "runtime.NumGoroutine") = false := by kernel_rfl
                simp only [callFunc, Sem.run_bind, run_program, Result.andThen_ok, Tryd.func10, h3, hnone, Bool.false_eq_true, if_false]
                rfl
        · cases h
      · cases h
    · cases h
  · cases h

noncomputable def ext : Ext := bothExt tab (itvOf 10) [] [3, 4]
theorem extOk : ExtOk Tryd.prog tab ext := bothExt_ok tabOk itvOk [] [3, 4]
theorem extLe : ExtLe ext := bothExt_le tab (itvOf 10) [] [3, 4]

end Go.Proofs.YtgjochaacmkpaaaDoor

namespace Go.Proofs.YtgjochaacmkpaaaDoor
open Go Go.Dv

/-- What the table holds of the types that are met. -/
def tb : Nat → Option TI
  | 3 => some { und := (.int .i64), size := 1, bytes := 8, kd := 1, zero := (some [(.v (.lit (.int .i64 ((0 : Nat) : Int))))]) }
  | 4 => some { und := .bool, size := 1, bytes := 1, kd := 1, zero := (some [(.v (.lit (.bool false)))]) }
  | 5 => some { und := (.int .u8), size := 1, bytes := 1, kd := 1, zero := (some [(.v (.lit (.int .u8 ((0 : Nat) : Int))))]) }
  | 9 => some { und := .string, size := 1, bytes := 16, kd := 1, zero := (some [(.v (.lit (.string ⟨#[]⟩)))]) }
  | 22 => some { und := (.int .u64), size := 1, bytes := 8, kd := 1, zero := (some [(.v (.lit (.int .u64 ((0 : Nat) : Int))))]) }
  | 24 => some { und := (.array 4 22), size := 4, bytes := 32, kd := 2, zero := (some [(.v (.lit (.int .u64 ((0 : Nat) : Int)))), (.v (.lit (.int .u64 ((0 : Nat) : Int)))), (.v (.lit (.int .u64 ((0 : Nat) : Int)))), (.v (.lit (.int .u64 ((0 : Nat) : Int))))]) }
  | 25 => some { und := (.slice 5), size := 1, bytes := 24, kd := 1, zero := (some [(.nil 1)]) }
  | 26 => some { und := (.tuple #[25, 4]), size := 1, bytes := 0, kd := 1, zero := .none }
  | 40 => some { und := (.slice 24), size := 1, bytes := 24, kd := 1, zero := (some [(.nil 4)]) }
  | 37 => some { und := (.slice 3), size := 1, bytes := 24, kd := 1, zero := (some [(.nil 1)]) }
  | 43 => some { und := (.map 9 3), size := 1, bytes := 8, kd := 1, zero := (some [(.v (.lit (.map .none)))]) }
  | 31 => some { und := (.func #[35] #[] false), size := 1, bytes := 8, kd := 1, zero := (some [(.v (.lit .nilFunc))]) }
  | _ => .none
theorem hT {t : Nat} {T : TI} (h : tb t = some T) : tab.ti t = T := by
  unfold tb at h
  split at h <;> first | (cases h; done) | (cases h; kernel_rfl)
theorem fn15 : tab.fn.getD 15 .none = some Tryd.f15 := by kernel_rfl
theorem no15 : ext 15 = .none := by kernel_rfl
theorem fn6 : tab.fn.getD 6 .none = some Tryd.f6 := by kernel_rfl
theorem no6 : ext 6 = .none := by kernel_rfl
theorem fn5 : tab.fn.getD 5 .none = some Tryd.f5 := by kernel_rfl
theorem no5 : ext 5 = .none := by kernel_rfl
theorem fn9 : tab.fn.getD 9 .none = some Tryd.f9 := by kernel_rfl
theorem no9 : ext 9 = .none := by kernel_rfl
theorem fn8 : tab.fn.getD 8 .none = some Tryd.f8 := by kernel_rfl
theorem no8 : ext 8 = .none := by kernel_rfl
theorem fn12 : tab.fn.getD 12 .none = some Tryd.f12 := by kernel_rfl
theorem no12 : ext 12 = .none := by kernel_rfl
theorem fn14 : tab.fn.getD 14 .none = some Tryd.f14 := by kernel_rfl
theorem no14 : ext 14 = .none := by kernel_rfl
theorem fn13 : tab.fn.getD 13 .none = some Tryd.f13 := by kernel_rfl
theorem no13 : ext 13 = .none := by kernel_rfl
theorem xt3 : ext 3 = some (runRange tab (itvOf 10) Tryd.f3) := by kernel_rfl
theorem xt4 : ext 4 = some (runRange tab (itvOf 10) Tryd.f4) := by kernel_rfl
theorem fn4 : tab.fn.getD 4 .none = some Tryd.f4 := by kernel_rfl
theorem fn3 : tab.fn.getD 3 .none = some Tryd.f3 := by kernel_rfl
theorem fn7 : tab.fn.getD 7 .none = some Tryd.f7 := by kernel_rfl
set_option maxRecDepth 100000 in
theorem ev6 {W : List Nat} {b : Nat} (hb : b < 256) (hW : isW W) : FnEv tab ext 6 [.v (setV W), .v (byteV b)] [] (.ret [boolV (has W b)], []) := by
  refine fn_go _ no6 fn6 rfl rfl rfl ?_
  have hq : b / 64 < 4 := by omega
  have hw := hW.2 (b / 64)
  refine wC_seq (wC_reg ?_)
  refine wS_set rfl rfl rfl (a_box2 rfl (hT rfl) rfl (by rw [List.length_map, hW.1]) rfl) ?_
  refine wS_set rfl rfl rfl (a_assign rfl rfl) ?_
  refine wO_nil ?_
  refine wC_seq (wC_reg ?_)
  refine wS_set rfl rfl rfl (a_move rfl rfl) ?_
  refine wS_set rfl rfl rfl (n_quo (b := 64) rfl rfl (by omega) (le_cap hb)) ?_
  refine wS_set rfl rfl rfl (n_indexAddrA rfl rfl (hT rfl) rfl (hT rfl) hq) ?_
  refine wS_set rfl rfl rfl (a_load1 rfl rfl (hT rfl) rfl (cell_get hW hq)) ?_
  refine wS_set rfl rfl rfl (a_move rfl rfl) ?_
  refine wS_set rfl rfl rfl (n_rem (b := 64) rfl rfl (by omega)) ?_
  refine wS_set rfl rfl rfl (n_shr rfl rfl (by simp only [IntKind.bits]; omega)) ?_
  refine wS_set rfl rfl rfl (n_and (b := 1) rfl rfl (cap64 (Nat.lt_of_le_of_lt (Nat.div_le_self _ _) hw)) (by simp only [capN]; omega)) ?_
  refine wS_set rfl rfl rfl (n_eql (b := 1) rfl rfl) ?_
  refine wS_set rfl rfl rfl (a_assign rfl rfl) ?_
  refine wO_nil ?_
  refine wC_ret ?_
  exact end_tmp rfl rfl
theorem has_is {W : List Nat} {b : Nat} {p : Bool} (hb : b < 256) (hW : isW W) (h : has W b = p) : FnEv tab ext 6 [.v (setV W), .v (byteV b)] [] (.ret [boolV p], []) := h ▸ ev6 hb hW
set_option maxRecDepth 100000 in
theorem ev15 {W : List Nat} {b : Nat} (hb : b < 256) (hW : isW W) : FnEv tab ext 15 [.v (setV W), .v (byteV b)] [] (.ret [boolV (has W b)], []) := by
  refine fn_go _ no15 fn15 rfl rfl rfl ?_
  have hq : b / 64 < 4 := by omega
  have hw := hW.2 (b / 64)
  refine wC_seq (wC_reg ?_)
  refine wS_set rfl rfl rfl (a_box2 rfl (hT rfl) rfl (by rw [List.length_map, hW.1]) rfl) ?_
  refine wS_set rfl rfl rfl (a_assign rfl rfl) ?_
  refine wO_nil ?_
  refine wC_seq (wC_reg ?_)
  refine wS_set rfl rfl rfl (a_move rfl rfl) ?_
  refine wS_set rfl rfl rfl (n_quo (b := 64) rfl rfl (by omega) (by simp only [capN]; omega)) ?_
  refine wS_set rfl rfl rfl (n_indexAddrA rfl rfl (hT rfl) rfl (hT rfl) hq) ?_
  refine wS_set rfl rfl rfl (a_load1 rfl rfl (hT rfl) rfl (cell_get hW hq)) ?_
  refine wS_set rfl rfl rfl (a_move rfl rfl) ?_
  refine wS_set rfl rfl rfl (n_rem (b := 64) rfl rfl (by omega)) ?_
  refine wS_set rfl rfl rfl (n_shr rfl rfl (by simp only [IntKind.bits]; omega)) ?_
  refine wS_set rfl rfl rfl (n_and (b := 1) rfl rfl (cap64 (Nat.lt_of_le_of_lt (Nat.div_le_self _ _) hw)) (by simp only [capN]; omega)) ?_
  refine wS_set rfl rfl rfl (n_eql (b := 1) rfl rfl) ?_
  refine wS_set rfl rfl rfl (a_assign rfl rfl) ?_
  refine wO_nil ?_
  refine wC_ret ?_
  exact ⟨_, _, _, _, rfl, rfl, rfl⟩
theorem hasT {W : List Nat} {b : Nat} {p : Bool} (h : has W b = p) (hb : b < 256) (hW : isW W) : FnEv tab ext 15 [.v (setV W), .v (byteV b)] [] (.ret [boolV p], []) := h ▸ ev15 hb hW
set_option maxRecDepth 100000 in
theorem ev9 {x : Nat} (hx : x < 2 ^ 64) : FnEv tab ext 9 [.v (word x)] [] (.ret [.lit (.int .i64 (swar x : Nat))], []) := by
  have b1 := s1_le x
  have b2 := s2_le (s1 x)
  have b3 := s3_le (s2 (s1 x))
  have b4 := s4_le b3
  have b5 := s5_le b4
  have b6 := s6_le b5
  have h1 := @Nat.and_le_right (x / 2 ^ 1) 6148914691236517205
  have h2 := @Nat.and_le_right x 6148914691236517205
  have h3 := @Nat.and_le_right (s1 x / 2 ^ 2) 3689348814741910323
  have h4 := @Nat.and_le_right (s1 x) 3689348814741910323
  refine fn_go _ no9 fn9 rfl rfl rfl ?_
  refine wC_seq ?_
  refine wC_reg ?_
  refine wS_set rfl rfl rfl (a_assign rfl rfl) ?_
  refine wO_nil ?_
  refine wC_seq ?_
  refine wC_reg ?_
  refine wS_set rfl rfl rfl (a_move rfl rfl) ?_
  refine wS_set rfl rfl rfl (n_shr (b := 1) rfl rfl (by simp only [IntKind.bits]; omega)) ?_
  refine wS_set rfl rfl rfl (n_and (b := 6148914691236517205) rfl rfl (by simp only [capN]; omega) (by simp only [capN]; omega)) ?_
  refine wS_set rfl rfl rfl (a_move rfl rfl) ?_
  refine wS_set rfl rfl rfl (n_and (b := 6148914691236517205) rfl rfl (by simp only [capN]; omega) (by simp only [capN]; omega)) ?_
  refine wS_set rfl rfl rfl (n_add rfl rfl (by simp only [capN]; omega)) ?_
  refine wS_set rfl rfl rfl (a_assign (y := .v (word (s1 x))) rfl rfl) ?_
  refine wO_nil ?_
  refine wC_seq ?_
  refine wC_reg ?_
  refine wS_set rfl rfl rfl (a_move rfl rfl) ?_
  refine wS_set rfl rfl rfl (n_shr (b := 2) rfl rfl (by simp only [IntKind.bits]; omega)) ?_
  refine wS_set rfl rfl rfl (n_and (b := 3689348814741910323) rfl rfl (by simp only [capN]; omega) (by simp only [capN]; omega)) ?_
  refine wS_set rfl rfl rfl (a_move rfl rfl) ?_
  refine wS_set rfl rfl rfl (n_and (b := 3689348814741910323) rfl rfl (by simp only [capN]; omega) (by simp only [capN]; omega)) ?_
  refine wS_set rfl rfl rfl (n_add rfl rfl (by simp only [capN]; omega)) ?_
  refine wS_set rfl rfl rfl (a_assign (y := .v (word (s2 (s1 x)))) rfl rfl) ?_
  refine wO_nil ?_
  refine wC_seq ?_
  refine wC_reg ?_
  refine wS_set rfl rfl rfl (a_move rfl rfl) ?_
  refine wS_set rfl rfl rfl (n_shr (b := 4) rfl rfl (by simp only [IntKind.bits]; omega)) ?_
  refine wS_set rfl rfl rfl (a_move rfl rfl) ?_
  refine wS_set rfl rfl rfl (n_add rfl rfl (by simp only [capN]; omega)) ?_
  refine wS_set rfl rfl rfl (n_and (b := 1085102592571150095) rfl rfl (by simp only [capN]; omega) (by simp only [capN]; omega)) ?_
  refine wS_set rfl rfl rfl (a_assign (y := .v (word (s3 (s2 (s1 x))))) rfl rfl) ?_
  refine wO_nil ?_
  refine wC_seq ?_
  refine wC_reg ?_
  refine wS_set rfl rfl rfl (a_move rfl rfl) ?_
  refine wS_set rfl rfl rfl (a_move rfl rfl) ?_
  refine wS_set rfl rfl rfl (n_shr (b := 8) rfl rfl (by simp only [IntKind.bits]; omega)) ?_
  refine wS_set rfl rfl rfl (n_add rfl rfl (by simp only [capN]; omega)) ?_
  refine wS_set rfl rfl rfl (a_assign (y := .v (word (s4 (s3 (s2 (s1 x)))))) rfl rfl) ?_
  refine wO_nil ?_
  refine wC_seq ?_
  refine wC_reg ?_
  refine wS_set rfl rfl rfl (a_move rfl rfl) ?_
  refine wS_set rfl rfl rfl (a_move rfl rfl) ?_
  refine wS_set rfl rfl rfl (n_shr (b := 16) rfl rfl (by simp only [IntKind.bits]; omega)) ?_
  refine wS_set rfl rfl rfl (n_add rfl rfl (by simp only [capN]; omega)) ?_
  refine wS_set rfl rfl rfl (a_assign (y := .v (word (s5 (s4 (s3 (s2 (s1 x))))))) rfl rfl) ?_
  refine wO_nil ?_
  refine wC_seq ?_
  refine wC_reg ?_
  refine wS_set rfl rfl rfl (a_move rfl rfl) ?_
  refine wS_set rfl rfl rfl (a_move rfl rfl) ?_
  refine wS_set rfl rfl rfl (n_shr (b := 32) rfl rfl (by simp only [IntKind.bits]; omega)) ?_
  refine wS_set rfl rfl rfl (n_add rfl rfl (by simp only [capN]; omega)) ?_
  refine wS_set rfl rfl rfl (a_assign (y := .v (word (s6 (s5 (s4 (s3 (s2 (s1 x)))))))) rfl rfl) ?_
  refine wO_nil ?_
  refine wC_seq ?_
  refine wC_reg ?_
  refine wS_set rfl rfl rfl (a_move rfl rfl) ?_
  refine wS_set rfl rfl rfl (n_conv rfl (hT rfl) rfl (hT rfl) rfl (by simp only [capN]; omega)) ?_
  refine wS_set rfl rfl rfl (n_and (b := 127) rfl rfl (by simp only [capN]; omega) (by simp only [capN]; omega)) ?_
  refine wS_set rfl rfl rfl (a_assign rfl rfl) ?_
  refine wO_nil ?_
  refine wC_ret ?_
  exact end_tmp rfl rfl
set_option maxRecDepth 100000 in
theorem ev5 {A : List Nat} (hA : isW A) : FnEv tab ext 5 [.v (setV A)] [] (.ret [.lit (.int .i64 (lenW A 4 : Nat))], []) := by
  refine fn_go _ no5 fn5 rfl rfl rfl ?_
  refine wC_seq ?_
  refine wC_reg ?_
  refine wS_set rfl rfl rfl (a_box2 rfl (hT rfl) rfl (by rw [List.length_map, hA.1]) rfl) ?_
  refine wS_set rfl rfl rfl (a_assign rfl rfl) ?_
  refine wO_nil ?_
  refine wC_seq ?_
  refine wC_reg ?_
  refine wS_set rfl rfl rfl (a_assign rfl rfl) ?_
  refine wO_nil ?_
  refine wC_seq ?_
  refine wC_seq ?_
  refine wC_reg ?_
  refine wS_set rfl rfl rfl (a_load2 (cs := cells A) rfl rfl (hT rfl) rfl (by rw [cells_len hA]; exact Nat.le_refl _) (cells_load hA)) ?_
  refine wS_set rfl rfl rfl (a_move rfl rfl) ?_
  refine wO_nil ?_
  refine wC_block ?_ -- 0
  refine wC_loop (fun m ρ => ∃ i, i + m = 4 ∧ PinSt 16 [(3, natX .i64 (lenW A i)), (6, .v (setV A)), (7, natX .i64 i)] [] ρ) (fun m ρ hi => ?_) 4
    ⟨0, rfl, pinned_mk rfl ⟨rfl, rfl, rfl, trivial⟩ trivial⟩
  obtain ⟨i, hm, hi⟩ := hi
  obtain ⟨g, h, rfl⟩ := hi.form
  have hle := lenW_le A i
  refine wC_seq ?_
  refine wC_reg ?_
  refine wS_set rfl rfl rfl (n_lss (a := i) (b := 4) rfl rfl) ?_
  refine wO_nil ?_
  refine wC_seq ?_
  refine wC_cond rfl (fun hc => ?_) (fun hc => ?_)
  ·
    have hlt : i < 4 := by simpa using hc
    have hs := swar_le (A.getD i 0)
    refine wC_skip ?_
    refine wC_seq ?_
    refine wC_block ?_ -- 1
    refine wC_seq ?_
    refine wC_reg ?_
    refine wS_set rfl rfl rfl (n_indexArr1 (a := i) (cs := A.map word) rfl rfl (hT rfl) rfl (hT rfl) rfl hlt (word_get hA hlt)) ?_
    refine wS_set rfl rfl rfl (a_assign rfl rfl) ?_
    refine wO_nil ?_
    refine wC_reg ?_
    refine wS_set rfl rfl rfl (a_move rfl rfl) ?_
    refine wS_set rfl rfl rfl (a_move rfl rfl) ?_
    refine wS_set rfl rfl rfl (a_call rfl rfl fn9 rfl rfl (ev9 (hA.2 i))) ?_
    refine wS_set rfl rfl rfl (n_add (a := lenW A i) (b := swar (A.getD i 0)) rfl rfl (by simp only [capN]; omega)) ?_
    refine wS_set rfl rfl rfl (a_assign rfl rfl) ?_
    refine wO_nil ?_
    refine wC_reg ?_
    refine wS_set rfl rfl rfl (n_add (a := i) (b := 1) rfl rfl (by simp only [capN]; omega)) ?_
    refine wS_set rfl rfl rfl (a_move rfl rfl) ?_
    refine wO_nil ?_
    exact ⟨m - 1, by omega, i + 1, by omega, pinned_mk rfl ⟨rfl, rfl, rfl, trivial⟩ trivial⟩
  ·
    have hlt : ¬ i < 4 := by simpa using hc
    obtain rfl : i = 4 := by omega
    refine wC_exit ?_ -- 0
    refine wC_seq ?_
    refine wC_reg ?_
    refine wS_set rfl rfl rfl (a_move rfl rfl) ?_
    refine wS_set rfl rfl rfl (a_assign rfl rfl) ?_
    refine wO_nil ?_
    refine wC_ret ?_
    exact end_tmp rfl rfl
set_option maxRecDepth 100000 in
theorem ev12 {lo up : Nat} (hlo : lo < 256) (hup : up < 256) : FnEv tab ext 12 [.v (byteV lo), .v (byteV up)] [] (.ret [setV (fillW (inR lo up) 256)], []) := by
  refine fn_go _ no12 fn12 rfl rfl rfl ?_
  refine wC_seq ?_
  refine wC_reg ?_
  refine wS_set rfl rfl rfl (a_alloc (hT rfl) rfl rfl) ?_
  refine wO_nil ?_
  refine wC_seq ?_
  refine wC_reg ?_
  refine wS_set rfl rfl rfl (a_alloc (hT rfl) rfl rfl) ?_
  refine wO_nil ?_
  refine wC_seq ?_
  refine wC_seq ?_
  refine wC_reg ?_
  refine wS_set rfl rfl rfl (a_move rfl rfl) ?_
  refine wS_set rfl rfl rfl (n_conv (a := lo) rfl (hT rfl) rfl (hT rfl) rfl (by simp only [capN]; omega)) ?_
  refine wS_set rfl rfl rfl (a_assign rfl rfl) ?_
  refine wO_nil ?_
  refine wC_block ?_ -- 0
  refine wC_loop (fun m ρ => ∃ i, i + m = 256 ∧ lo ≤ i ∧ PinSt 25 [(1, .v (byteV up)), (4, .addr 4 1 0), (5, .addr 5 1 0), (6, natX .i64 i)] [(4, .box 1 (cells zeroW)), (5, .box 1 (cells (fillW (inR lo up) i)))] ρ) (fun m ρ hi => ?_) (256 - lo)
    ⟨lo, by omega, Nat.le_refl _, pinned_mk rfl ⟨rfl, rfl, rfl, rfl, trivial⟩ ⟨rfl, by rw [range_0]; rfl, trivial⟩⟩
  obtain ⟨i, hm, hl, hi⟩ := hi
  obtain ⟨g, h, rfl⟩ := hi.form
  have hC := fillW_isW (inR lo up) i (by omega)
  refine wC_seq ?_
  refine wC_seq ?_
  refine wC_reg ?_
  refine wS_set rfl rfl rfl (a_move rfl rfl) ?_
  refine wS_set rfl rfl rfl (a_move rfl rfl) ?_
  refine wS_set rfl rfl rfl (n_conv (a := up) rfl (hT rfl) rfl (hT rfl) rfl (by simp only [capN]; omega)) ?_
  refine wS_set rfl rfl rfl (n_leq (a := i) (b := up) rfl rfl) ?_
  refine wO_nil ?_
  refine wC_cond rfl (fun hc => ?_) (fun hc => ?_)
  ·
    have hle : i ≤ up := by simpa using hc
    have hlt : i < 256 := by omega
    have hV := withW_isW hC hlt
    refine wC_skip ?_
    refine wC_seq ?_
    refine wC_block ?_ -- 1
    have hq : i / 64 < 4 := by omega
    have hp := pow_lt (n := i % 64) (by omega)
    refine wC_regD (by kernel_rfl) ?_
    refine wS_set rfl rfl rfl (a_move rfl rfl) ?_
    refine wS_set rfl rfl rfl (n_quo (a := i) (b := 64) rfl rfl (by omega) (by simp only [capN]; omega)) ?_
    refine wS_set rfl rfl rfl (n_indexAddrA (a := i / 64) rfl rfl (hT rfl) rfl (hT rfl) hq) ?_
    refine wS_set rfl rfl rfl (a_load1 rfl rfl (hT rfl) rfl (cells_get hC hq)) ?_
    refine wS_set rfl rfl rfl (a_move rfl rfl) ?_
    refine wS_set rfl rfl rfl (n_rem (a := i) (b := 64) rfl rfl (by omega)) ?_
    refine wS_set rfl rfl rfl (n_shl (a := 1) (b := i % 64) rfl rfl (by simp only [IntKind.bits]; omega) (by rw [Nat.one_mul]; exact cap64 hp)) ?_
    refine wS_set rfl rfl rfl (n_or rfl rfl (cap64 (hC.2 _)) (by rw [Nat.one_mul]; exact cap64 hp)) ?_
    refine wS_set rfl rfl rfl (n_indexAddrA (a := i / 64) rfl rfl (hT rfl) rfl (hT rfl) hq) ?_
    refine wS_eff rfl rfl (a_store1 rfl rfl rfl rfl rfl (hT rfl) rfl rfl (by rw [cells_len hC]; exact (by omega : 0 + i / 64 * 1 < 4))) ?_
    refine wO_nil ⟨rfl, by kernel_rfl, ?_⟩
    refine wC_reg ?_
    refine wS_set rfl rfl rfl (a_move rfl rfl) ?_
    refine wS_set rfl rfl rfl (n_add (a := i) (b := 1) rfl rfl (by simp only [capN]; omega)) ?_
    refine wS_set rfl rfl rfl (a_assign rfl rfl) ?_
    refine wO_nil ?_
    refine ⟨m - 1, by omega, i + 1, by omega, by omega, pinned_mk rfl ⟨rfl, rfl, rfl, rfl, trivial⟩ ⟨rfl, ?_, trivial⟩⟩
    rw [range_t hle hl]
    show Ob.box 1 ((cells (fillW (inR lo up) i)).set (0 + i / 64 * 1) (.v (word ((fillW (inR lo up) i).getD (i / 64) 0 ||| 1 * 2 ^ (i % 64))))) = _
    rw [cells_set, Nat.one_mul]; rfl
  ·
    have hlt : ¬ i ≤ up := by simpa using hc
    have hV := range_end hlt (by omega : i ≤ 256) hl
    refine wC_exit ?_ -- 0
    refine wC_seq ?_
    refine wC_reg ?_
    refine wS_set rfl rfl rfl (a_load2 rfl rfl (hT rfl) rfl (by rw [cells_len hC]; exact Nat.le_refl _) (cells_load hC)) ?_
    refine wS_eff rfl rfl (a_store2 rfl rfl rfl (hT rfl) rfl (by rw [List.length_map, hC.1]) (by rw [List.length_map, hC.1, cells_len isW_zero]; exact Nat.le_refl _)) ?_
    refine wO_nil ?_
    refine wC_ret ?_
    rw [← hV]
    exact end_cell2 rfl rfl rfl (hT rfl) rfl (by rw [store_all hC isW_zero, cells_len hC]; exact Nat.le_refl _) (by rw [store_all hC isW_zero]; exact cells_load hC)
set_option maxRecDepth 100000 in
theorem ev14 {s : ByteArray} (hs : s.size < 2 ^ 62) : FnEv tab ext 14 [.v (.lit (.string s))] [] (.ret [setV (ofW s s.size)], []) := by
  refine fn_go _ no14 fn14 rfl rfl rfl ?_
  refine wC_seq ?_
  refine wC_reg ?_
  refine wS_set rfl rfl rfl (a_alloc (hT rfl) rfl rfl) ?_
  refine wO_nil ?_
  refine wC_seq ?_
  refine wC_reg ?_
  refine wS_set rfl rfl rfl (a_alloc (hT rfl) rfl rfl) ?_
  refine wO_nil ?_
  refine wC_seq ?_
  refine wC_seq ?_
  refine wC_reg ?_
  refine wS_set rfl rfl rfl (a_move rfl rfl) ?_
  refine wS_set rfl rfl rfl (a_lenStr (sb := s) rfl rfl (hT rfl) rfl) ?_
  refine wS_set rfl rfl rfl (a_move rfl rfl) ?_
  refine wO_nil ?_
  refine wC_block ?_ -- 0
  refine wC_loop (fun m ρ => ∃ i, i + m = s.size ∧ PinSt 25 [(0, .v (.lit (.string s))), (2, .addr 2 1 0), (3, .addr 3 1 0), (6, natX .i64 s.size), (7, natX .i64 i)] [(2, .box 1 (cells zeroW)), (3, .box 1 (cells (ofW s i)))] ρ) (fun m ρ hi => ?_) s.size
    ⟨0, by omega, pinned_mk rfl ⟨rfl, rfl, rfl, rfl, rfl, trivial⟩ ⟨rfl, rfl, trivial⟩⟩
  obtain ⟨i, hm, hi⟩ := hi
  obtain ⟨g, h, rfl⟩ := hi.form
  have hC := ofW_isW s i
  refine wC_seq ?_
  refine wC_reg ?_
  refine wS_set rfl rfl rfl (n_lss (a := i) (b := s.size) rfl rfl) ?_
  refine wO_nil ?_
  refine wC_seq ?_
  refine wC_cond rfl (fun hc => ?_) (fun hc => ?_)
  ·
    have hlt : i < s.size := by simpa using hc
    have hb := byteAt_lt s i
    have hV := withW_isW hC hb
    refine wC_skip ?_
    refine wC_seq ?_
    refine wC_block ?_ -- 1
    have hq : (byteAt s i).toNat / 64 < 4 := by omega
    have hp := pow_lt (n := (byteAt s i).toNat % 64) (by omega)
    refine wC_seq ?_
    refine wC_reg ?_
    refine wS_set rfl rfl rfl (a_move rfl rfl) ?_
    refine wS_set rfl rfl rfl (a_assign rfl rfl) ?_
    refine wO_nil ?_
    refine wC_regD (by kernel_rfl) ?_
    refine wS_set rfl rfl rfl (a_move rfl rfl) ?_
    refine wS_set rfl rfl rfl (a_move rfl rfl) ?_
    refine wS_set rfl rfl rfl (n_indexStr (sb := s) (a := i) rfl rfl (hT rfl) rfl (byteAt_get hlt)) ?_
    refine wS_set rfl rfl rfl (n_quo (a := (byteAt s i).toNat) (b := 64) rfl rfl (by omega) (le_cap hb)) ?_
    refine wS_set rfl rfl rfl (n_indexAddrA (a := (byteAt s i).toNat / 64) rfl rfl (hT rfl) rfl (hT rfl) hq) ?_
    refine wS_set rfl rfl rfl (a_load1 rfl rfl (hT rfl) rfl (cells_get hC hq)) ?_
    refine wS_set rfl rfl rfl (a_move rfl rfl) ?_
    refine wS_set rfl rfl rfl (a_move rfl rfl) ?_
    refine wS_set rfl rfl rfl (n_indexStr (sb := s) (a := i) rfl rfl (hT rfl) rfl (byteAt_get hlt)) ?_
    refine wS_set rfl rfl rfl (n_rem (a := (byteAt s i).toNat) (b := 64) rfl rfl (by omega)) ?_
    refine wS_set rfl rfl rfl (n_shl (a := 1) (b := (byteAt s i).toNat % 64) rfl rfl (by simp only [IntKind.bits]; omega) (by rw [Nat.one_mul]; exact cap64 hp)) ?_
    refine wS_set rfl rfl rfl (n_or rfl rfl (cap64 (hC.2 _)) (by rw [Nat.one_mul]; exact cap64 hp)) ?_
    refine wS_set rfl rfl rfl (n_indexAddrA (a := (byteAt s i).toNat / 64) rfl rfl (hT rfl) rfl (hT rfl) hq) ?_
    refine wS_eff rfl rfl (a_store1 rfl rfl rfl rfl rfl (hT rfl) rfl rfl (by rw [cells_len hC]; exact (by omega : 0 + (byteAt s i).toNat / 64 * 1 < 4))) ?_
    refine wO_nil ⟨rfl, by kernel_rfl, ?_⟩
    refine wC_reg ?_
    refine wS_set rfl rfl rfl (n_add (a := i) (b := 1) rfl rfl (by simp only [capN]; omega)) ?_
    refine wS_set rfl rfl rfl (a_move rfl rfl) ?_
    refine wO_nil ?_
    refine ⟨m - 1, by omega, i + 1, by omega, pinned_mk rfl ⟨rfl, rfl, rfl, rfl, rfl, trivial⟩ ⟨rfl, ?_, trivial⟩⟩
    show Ob.box 1 ((cells (ofW s i)).set (0 + (byteAt s i).toNat / 64 * 1) (.v (word ((ofW s i).getD ((byteAt s i).toNat / 64) 0 ||| 1 * 2 ^ ((byteAt s i).toNat % 64))))) = _
    rw [cells_set, Nat.one_mul]; rfl
  ·
    have hlt : ¬ i < s.size := by simpa using hc
    obtain rfl : i = s.size := by omega
    refine wC_exit ?_ -- 0
    refine wC_seq ?_
    refine wC_reg ?_
    refine wS_set rfl rfl rfl (a_load2 rfl rfl (hT rfl) rfl (by rw [cells_len hC]; exact Nat.le_refl _) (cells_load hC)) ?_
    refine wS_eff rfl rfl (a_store2 rfl rfl rfl (hT rfl) rfl (by rw [List.length_map, hC.1]) (by rw [List.length_map, hC.1, cells_len isW_zero]; exact Nat.le_refl _)) ?_
    refine wO_nil ?_
    refine wC_ret ?_
    exact end_cell2 rfl rfl rfl (hT rfl) rfl (by rw [store_all hC isW_zero, cells_len hC]; exact Nat.le_refl _) (by rw [store_all hC isW_zero]; exact cells_load hC)
set_option maxRecDepth 100000 in
theorem ev13L {S : List (List Nat)} (hS : ∀ W ∈ S, isW W) (hl : S.length ≤ 100000) : FnEv tab ext 13 [.lent 4 (rowS S)] [] (.ret [.sl 1 (rowI (clsRow S 256))], []) := by
  have e1 := rowS_len S
  refine fn_go _ no13 fn13 rfl rfl rfl ?_
  refine wC_seq ?_
  refine wC_reg ?_
  refine wS_set rfl rfl rfl (a_assignNil rfl (hT rfl) rfl (hT rfl)) ?_
  refine wO_nil ?_
  refine wC_seq ?_
  refine wC_reg ?_
  refine wS_set rfl rfl rfl (a_make (n := 256) rfl rfl (hT rfl) rfl (hT rfl) rfl rfl (by simp only [big]; omega) rfl rfl) ?_
  refine wS_set rfl rfl rfl (a_assign rfl rfl) ?_
  refine wO_nil ?_
  refine wC_seq ?_
  refine wC_reg ?_
  refine wS_set rfl rfl rfl (a_makeMap (hT rfl) rfl rfl) ?_
  refine wS_set rfl rfl rfl (a_assign rfl rfl) ?_
  refine wO_nil ?_
  refine wC_seq ?_
  refine wC_seq ?_
  refine wC_reg ?_
  refine wS_set rfl rfl rfl (a_move rfl rfl) ?_
  refine wS_set rfl rfl rfl (a_lenO rfl rfl (hT rfl) rfl) ?_
  refine wS_set rfl rfl rfl (a_move rfl rfl) ?_
  refine wO_nil ?_
  refine wC_block ?_
  refine wC_loop (fun k ρ => ∃ b, b + k = 256 ∧ PinSt 57 [(0, .lent 4 (rowS S)), (3, .own 11 1 0 256), (4, .mapr 12 1), (14, natX .i64 256), (15, natX .i64 b)] [(11, .row 1 true 1 (rowI (outR S b))), (12, .mp 1 (mpE (clsK S b) 0))] ρ) (fun kb ρ hi => ?_) 256
    ⟨0, rfl, pinned_mk rfl ⟨rfl, rfl, rfl, rfl, rfl, trivial⟩ ⟨rfl, rfl, trivial⟩⟩
  obtain ⟨b, hm, hi⟩ := hi
  replace hi := hi.form
  obtain ⟨g, h, rfl⟩ := hi
  refine wC_seq ?_
  refine wC_reg ?_
  refine wS_set rfl rfl rfl (n_lss (b := 256) rfl rfl ) ?_
  refine wO_nil ?_
  refine wC_seq ?_
  refine wC_cond rfl (fun hc => ?_) (fun hc => ?_)
  · have hb : b < 256 := by simpa using hc
    have hKl := clsK_le S b
    refine wC_skip ?_
    refine wC_seq ?_
    refine wC_block ?_
    refine wC_seq ?_
    refine wC_reg ?_
    refine wS_set rfl rfl rfl (a_move rfl rfl) ?_
    refine wS_set rfl rfl rfl (a_assign rfl rfl) ?_
    refine wO_nil ?_
    refine wC_seq ?_
    refine wC_reg ?_
    refine wS_set rfl rfl rfl (a_move rfl rfl) ?_
    refine wS_set rfl rfl rfl (a_lenL rfl rfl (hT rfl) rfl) ?_
    refine wS_set rfl rfl rfl (a_make rfl rfl (hT rfl) rfl (hT rfl) rfl rfl (by simp only [big]; omega) rfl rfl) ?_
    refine wS_set rfl rfl rfl (a_assign rfl rfl) ?_
    refine wO_nil ?_
    refine wC_seq ?_
    refine wC_seq ?_
    refine wC_reg ?_
    refine wS_set rfl rfl rfl (a_move rfl rfl) ?_
    refine wS_set rfl rfl rfl (a_lenL rfl rfl (hT rfl) rfl) ?_
    refine wS_set rfl rfl rfl (a_move rfl rfl) ?_
    refine wO_nil ?_
    refine wC_block ?_
    refine wC_loop (fun k ρ => ∃ j, j + k = S.length ∧ PinSt 57 [(0, .lent 4 (rowS S)), (3, .own 11 1 0 256), (4, .mapr 12 1), (5, natX .i64 b), (6, .own 20 ((h 20).gen + 1) 0 (rowS S).length), (14, natX .i64 256), (15, natX .i64 b), (21, .lent 4 (rowS S)), (22, natX .i64 (rowS S).length), (23, natX .i64 j)]
      [(11, .row 1 true 1 (rowI (outR S b))), (12, .mp 1 (mpE (clsK S b) 0)), (20, .row ((h 20).gen + 1) true 1 (keyRow S b j))] ρ) (fun k ρ hi => ?_) S.length
      ⟨0, by omega, pinned_mk rfl ⟨rfl, rfl, rfl, rfl, rfl, rfl, rfl, rfl, rfl, rfl, trivial⟩ ⟨rfl, rfl, by rw [keyRow_0, ← e1]; rfl, trivial⟩⟩
    obtain ⟨j, hm', hi⟩ := hi
    generalize (h 20).gen + 1 = G at hi
    clear h g
    replace hi := hi.form
    obtain ⟨g, h, rfl⟩ := hi
    refine wC_seq ?_
    refine wC_reg ?_
    refine wS_set rfl rfl rfl (n_lss rfl rfl ) ?_
    refine wO_nil ?_
    refine wC_seq ?_
    refine wC_cond rfl (fun hc => ?_) (fun hc => ?_)
    · have hj : j < S.length := by rw [← e1]; simpa using hc
      have hW := hS _ (getD_mem hj)
      have hg := rowS_get hj
      refine wC_skip ?_
      refine wC_seq ?_
      refine wC_block ?_
      refine wC_seq ?_
      refine wC_reg ?_
      refine wS_set rfl rfl rfl (a_move rfl rfl) ?_
      refine wS_set rfl rfl rfl (n_indexAddrL (a := j) (es := rowS S) rfl rfl (hT rfl) rfl (hT rfl) rfl hg) ?_
      refine wS_set rfl rfl rfl (loadS (by assumption) rfl (hT rfl) rfl rfl) ?_
      refine wS_set rfl rfl rfl (a_alloc (hT rfl) rfl rfl) ?_
      refine wS_set rfl rfl rfl (a_assign rfl rfl) ?_
      refine wS_eff rfl rfl (a_storeW (by assumption) rfl rfl rfl rfl (hT rfl) rfl rfl) ?_
      refine wO_nil ?_
      refine wC_seq ?_
      refine wC_reg ?_
      refine wS_set rfl rfl rfl (a_load2 rfl rfl (hT rfl) rfl (by rw [cells_len (by assumption)]; exact Nat.le_refl _) (cells_load (by assumption))) ?_
      refine wS_set rfl rfl rfl (a_move rfl rfl) ?_
      refine wS_set rfl rfl rfl (n_conv rfl (hT rfl) rfl (hT rfl) rfl (by simp only [capN]; omega)) ?_
      refine wS_set rfl rfl rfl (a_call rfl rfl fn15 rfl rfl (ev15 (by omega) (by assumption))) ?_
      refine wO_nil ?_
      refine wC_cond rfl (fun hc => ?_) (fun hc => ?_)
      · refine wC_reg ?_
        refine wS_set rfl rfl rfl (a_move rfl rfl) ?_
        refine wS_set rfl rfl rfl (a_move rfl rfl) ?_
        refine wS_set rfl rfl rfl (n_indexAddrP rfl rfl rfl (hT rfl) rfl (hT rfl) rfl (by omega)) ?_
        refine wS_eff rfl rfl (a_storeI (v := byteV 1) rfl rfl rfl rfl ⟨_, keyRow_get S b hj⟩ (hT rfl) rfl rfl) ?_
        refine wO_nil ?_
        refine wC_reg ?_
        refine wS_set rfl rfl rfl (n_add (b := 1) rfl rfl (by simp only [capN]; omega)) ?_
        refine wS_set rfl rfl rfl (a_move rfl rfl) ?_
        refine wO_nil ?_
        refine ⟨k - 1, by omega, j + 1, by omega, pinned_mk rfl ⟨rfl, rfl, rfl, rfl, rfl, rfl, rfl, rfl, rfl, rfl, trivial⟩ ⟨rfl, rfl, ?_, trivial⟩⟩
        rw [← keyRow_t S b hj hc]
        rfl
      · refine wC_skip ?_
        refine wC_reg ?_
        refine wS_set rfl rfl rfl (n_add (b := 1) rfl rfl (by simp only [capN]; omega)) ?_
        refine wS_set rfl rfl rfl (a_move rfl rfl) ?_
        refine wO_nil ?_
        refine ⟨k - 1, by omega, j + 1, by omega, pinned_mk rfl ⟨rfl, rfl, rfl, rfl, rfl, rfl, rfl, rfl, rfl, rfl, trivial⟩ ⟨rfl, rfl, ?_, trivial⟩⟩
        rw [← keyRow_f S b hj hc]
        rfl
    · obtain rfl : j = S.length := by
        have : ¬ j < S.length := by rw [← e1]; simpa using hc
        omega
      have hby : bytesOf (((keyRow S b S.length).drop 0).take (rowS S).length) = some ((keyW S b).map bit8) := by
        rw [List.drop_zero, keyRow_end, e1, List.take_of_length_le (by simp [keyW]), key_bytes]
      have hf := mp_find (keyW S b) (clsK S b) 0 0
      by_cases hk : keyW S b ∈ clsK S b
      · rw [if_pos hk] at hf
        simp only [Nat.zero_add] at hf
        have hs : clsK S (b + 1) = clsK S b := by simp only [clsK]; rw [if_pos hk]
        refine wC_exit ?_
        refine wC_seq ?_
        refine wC_reg ?_
        refine wS_set rfl rfl rfl (a_move rfl rfl) ?_
        refine wS_set rfl rfl rfl (a_move rfl rfl) ?_
        refine wS_set rfl rfl rfl (a_convBytesO rfl rfl (hT rfl) rfl (hT rfl) rfl rfl (hT rfl) rfl hby) ?_
        refine wS_set rfl rfl rfl (a_lookupHit (kv := keyV (keyW S b)) rfl rfl rfl (hT rfl) rfl (hT rfl) rfl hf) ?_
        refine wS_set rfl rfl rfl (a_move rfl rfl) ?_
        refine wS_set rfl rfl rfl (a_extract rfl rfl) ?_
        refine wS_set rfl rfl rfl (a_extract rfl rfl) ?_
        refine wS_set rfl rfl rfl (a_assign rfl rfl) ?_
        refine wS_set rfl rfl rfl (a_assign rfl rfl) ?_
        refine wO_nil ?_
        refine wC_seq ?_
        refine wC_seq ?_
        refine wC_reg ?_
        refine wS_set rfl rfl rfl (a_move rfl rfl) ?_
        refine wS_set rfl rfl rfl (a_un rfl rfl) ?_
        refine wO_nil ?_
        refine wC_cond (p := false) rfl (fun hc => absurd hc (by decide)) (fun _ => ?_)
        refine wC_skip ?_
        refine wC_reg ?_
        refine wS_set rfl rfl rfl (a_move rfl rfl) ?_
        refine wS_set rfl rfl rfl (a_move rfl rfl) ?_
        refine wS_set rfl rfl rfl (a_move rfl rfl) ?_
        refine wS_set rfl rfl rfl (n_indexAddrP rfl rfl rfl (hT rfl) rfl (hT rfl) rfl (by omega)) ?_
        refine wS_eff rfl rfl (a_storeR (v := cls S b) (by rw [outR_len S (by omega)]; omega) rfl rfl rfl (hT rfl) rfl rfl) ?_
        refine wO_nil ?_
        refine wC_reg ?_
        refine wS_set rfl rfl rfl (n_add (b := 1) rfl rfl (by simp only [capN]; omega)) ?_
        refine wS_set rfl rfl rfl (a_move rfl rfl) ?_
        refine wO_nil ?_
        refine ⟨kb - 1, by omega, b + 1, by omega, pinned_mk rfl ⟨rfl, rfl, rfl, rfl, rfl, trivial⟩ ⟨?_, ?_, trivial⟩⟩
        · rw [← outR_set S hb]; rfl
        · rw [hs]; rfl
      · rw [if_neg hk] at hf
        have hs : clsK S (b + 1) = clsK S b ++ [keyW S b] := by simp only [clsK]; rw [if_neg hk]
        refine wC_exit ?_
        refine wC_seq ?_
        refine wC_reg ?_
        refine wS_set rfl rfl rfl (a_move rfl rfl) ?_
        refine wS_set rfl rfl rfl (a_move rfl rfl) ?_
        refine wS_set rfl rfl rfl (a_convBytesO rfl rfl (hT rfl) rfl (hT rfl) rfl rfl (hT rfl) rfl hby) ?_
        refine wS_set rfl rfl rfl (a_lookupMiss (kv := keyV (keyW S b)) (v := natV 0) rfl rfl rfl (hT rfl) rfl (hT rfl) rfl (by kernel_rfl) hf) ?_
        refine wS_set rfl rfl rfl (a_move rfl rfl) ?_
        refine wS_set rfl rfl rfl (a_extract rfl rfl) ?_
        refine wS_set rfl rfl rfl (a_extract rfl rfl) ?_
        refine wS_set rfl rfl rfl (a_assign rfl rfl) ?_
        refine wS_set rfl rfl rfl (a_assign rfl rfl) ?_
        refine wO_nil ?_
        refine wC_seq ?_
        refine wC_seq ?_
        refine wC_reg ?_
        refine wS_set rfl rfl rfl (a_move rfl rfl) ?_
        refine wS_set rfl rfl rfl (a_un rfl rfl) ?_
        refine wO_nil ?_
        refine wC_cond (p := true) rfl (fun _ => ?_) (fun hc => absurd hc (by decide))
        refine wC_seq ?_
        refine wC_reg ?_
        refine wS_set rfl rfl rfl (a_move rfl rfl) ?_
        refine wS_set rfl rfl rfl (a_lenM rfl rfl rfl (hT rfl) rfl) ?_
        refine wS_set rfl rfl rfl (a_assign rfl rfl) ?_
        refine wO_nil ?_
        refine wC_reg ?_
        refine wS_set rfl rfl rfl (a_move rfl rfl) ?_
        refine wS_set rfl rfl rfl (a_move rfl rfl) ?_
        refine wS_set rfl rfl rfl (a_convBytesO rfl rfl (hT rfl) rfl (hT rfl) rfl rfl (hT rfl) rfl hby) ?_
        refine wS_set rfl rfl rfl (a_move rfl rfl) ?_
        refine wS_eff rfl rfl (a_mapUpdate (kv := keyV (keyW S b)) (v := natV (mpE (clsK S b) 0).length) rfl rfl rfl rfl (hT rfl) rfl (hT rfl) rfl hf) ?_
        refine wO_nil ?_
        refine wC_reg ?_
        refine wS_set rfl rfl rfl (a_move rfl rfl) ?_
        refine wS_set rfl rfl rfl (a_move rfl rfl) ?_
        refine wS_set rfl rfl rfl (a_move rfl rfl) ?_
        refine wS_set rfl rfl rfl (n_indexAddrP rfl rfl rfl (hT rfl) rfl (hT rfl) rfl (by omega)) ?_
        refine wS_eff rfl rfl (a_storeR (v := (mpE (clsK S b) 0).length) (by rw [outR_len S (by omega)]; omega) rfl rfl rfl (hT rfl) rfl rfl) ?_
        refine wO_nil ?_
        refine wC_reg ?_
        refine wS_set rfl rfl rfl (n_add (b := 1) rfl rfl (by simp only [capN]; omega)) ?_
        refine wS_set rfl rfl rfl (a_move rfl rfl) ?_
        refine wO_nil ?_
        refine ⟨kb - 1, by omega, b + 1, by omega, pinned_mk rfl ⟨rfl, rfl, rfl, rfl, rfl, trivial⟩ ⟨?_, ?_, trivial⟩⟩
        · show Ob.row 1 true 1 (rowI ((outR S b).set b (mpE (clsK S b) 0).length)) = _
          rw [← outR_set S hb, mp_len]
          exact congrArg (fun x => Ob.row 1 true 1 (rowI ((outR S b).set b x))) (List.idxOf_eq_length hk).symm
        · show Ob.mp 1 (mpE (clsK S b) 0 ++ [(keyV (keyW S b), natV (mpE (clsK S b) 0).length)]) = _
          rw [hs, ← mp_app, Nat.zero_add, mp_len]
  · obtain rfl : b = 256 := by
      have : ¬ b < 256 := by simpa using hc
      omega
    refine wC_exit ?_
    refine wC_seq ?_
    refine wC_reg ?_
    refine wS_set rfl rfl rfl (a_move rfl rfl) ?_
    refine wS_set rfl rfl rfl (a_assign rfl rfl) ?_
    refine wO_nil ?_
    refine wC_ret ?_
    exact end_ownE rfl rfl rfl (by rw [List.drop_zero, outR_end]; exact List.take_of_length_le (by rw [rowI_len, clsRow_len]; exact Nat.le_refl _))
set_option maxRecDepth 100000 in
theorem ev8 : FnEv tab ext 8 [] [] (.ret [boolV true], []) := by
  have hA := fillW_isW (inR 97 99) 256 (Nat.le_refl _)
  have hB := fillW_isW (inR 99 97) 256 (Nat.le_refl _)
  refine fn_go _ no8 fn8 rfl rfl rfl ?_
  refine wC_seq ?_
  refine wC_reg ?_
  refine wS_set rfl rfl rfl (a_assign rfl rfl) ?_
  refine wO_nil ?_
  refine wC_seq ?_
  refine wC_reg ?_
  refine wS_set rfl rfl rfl (a_call rfl rfl fn12 rfl rfl (ev12 (lo := 97) (up := 99) (by omega) (by omega))) ?_
  refine wS_set rfl rfl rfl (a_alloc (hT rfl) rfl rfl) ?_
  refine wS_eff rfl rfl (a_storeW (by assumption) rfl rfl rfl rfl (hT rfl) rfl rfl) ?_
  refine wO_nil ?_
  refine wC_seq ?_
  refine wC_reg ?_
  refine wS_set rfl rfl rfl (a_call rfl rfl fn14 rfl rfl (ev14 (by decide))) ?_
  refine wS_set rfl rfl rfl (a_call rfl rfl fn14 rfl rfl (ev14 (by decide))) ?_
  refine wS_set rfl rfl rfl (a_buildSlice (ys := [setV (ofW sAB sAB.size), setV (ofW sBC sBC.size)]) (es := rowS exS) rfl (hT rfl) rfl (hT rfl) rfl rfl rfl rfl rfl) ?_
  refine wS_set rfl rfl rfl (a_call rfl rfl fn13 rfl rfl (ev13L exS_isW (by decide))) ?_
  refine wS_set rfl rfl rfl (a_assign rfl rfl) ?_
  refine wO_nil ?_
  refine wC_seq ?_
  refine wC_reg ?_
  refine wS_set rfl rfl rfl (a_load2 rfl rfl (hT rfl) rfl (by rw [cells_len (by assumption)]; exact Nat.le_refl _) (cells_load (by assumption))) ?_
  refine wS_set rfl rfl rfl (a_call rfl rfl fn5 rfl rfl (ev5 (by assumption))) ?_
  refine wS_set rfl rfl rfl (n_eqlT (b := 3) ex1 rfl rfl) ?_
  refine wS_set rfl rfl rfl (a_move rfl rfl) ?_
  refine wS_set rfl rfl rfl (a_load2 rfl rfl (hT rfl) rfl (by rw [cells_len (by assumption)]; exact Nat.le_refl _) (cells_load (by assumption))) ?_
  refine wS_set rfl rfl rfl (a_call rfl rfl fn15 rfl rfl (hasT (b := 98) ex2 (by omega) hA)) ?_
  refine wS_set rfl rfl rfl (a_pickT rfl rfl) ?_
  refine wS_set rfl rfl rfl (a_move rfl rfl) ?_
  refine wS_set rfl rfl rfl (a_load2 rfl rfl (hT rfl) rfl (by rw [cells_len (by assumption)]; exact Nat.le_refl _) (cells_load (by assumption))) ?_
  refine wS_set rfl rfl rfl (a_call rfl rfl fn15 rfl rfl (hasT (b := 100) ex3 (by omega) hA)) ?_
  refine wS_set rfl rfl rfl (a_un rfl rfl) ?_
  refine wS_set rfl rfl rfl (a_pickT rfl rfl) ?_
  refine wS_set rfl rfl rfl (a_move rfl rfl) ?_
  refine wS_set rfl rfl rfl (a_call rfl rfl fn12 rfl rfl (ev12 (lo := 99) (up := 97) (by omega) (by omega))) ?_
  refine wS_set rfl rfl rfl (a_call rfl rfl fn5 rfl rfl (ev5 (by assumption))) ?_
  refine wS_set rfl rfl rfl (n_eqlT (b := 0) ex4 rfl rfl) ?_
  refine wS_set rfl rfl rfl (a_pickT rfl rfl) ?_
  refine wS_set rfl rfl rfl (a_move rfl rfl) ?_
  refine wS_set rfl rfl rfl (a_move rfl rfl) ?_
  refine wS_set rfl rfl rfl (a_lenV rfl rfl (hT rfl) rfl) ?_
  refine wS_set rfl rfl rfl (n_eqlT (b := 256) ex5 rfl rfl) ?_
  refine wS_set rfl rfl rfl (a_pickT rfl rfl) ?_
  refine wS_set rfl rfl rfl (a_move rfl rfl) ?_
  refine wS_set rfl rfl rfl (a_move rfl rfl) ?_
  refine wS_set rfl rfl rfl (n_indexAddrV (a := 0) (es := rowI (clsRow exS 256)) rfl rfl (hT rfl) rfl (hT rfl) rfl (exGet (by omega))) ?_
  refine wS_set rfl rfl rfl (a_loadR1 rfl (hT rfl) rfl rfl) ?_
  refine wS_set rfl rfl rfl (n_eqlT (b := 0) ex6 rfl rfl) ?_
  refine wS_set rfl rfl rfl (a_pickT rfl rfl) ?_
  refine wS_set rfl rfl rfl (a_move rfl rfl) ?_
  refine wS_set rfl rfl rfl (a_move rfl rfl) ?_
  refine wS_set rfl rfl rfl (n_indexAddrV (a := 97) (es := rowI (clsRow exS 256)) rfl rfl (hT rfl) rfl (hT rfl) rfl (exGet (by omega))) ?_
  refine wS_set rfl rfl rfl (a_loadR1 rfl (hT rfl) rfl rfl) ?_
  refine wS_set rfl rfl rfl (n_eqlT (b := 1) ex7 rfl rfl) ?_
  refine wS_set rfl rfl rfl (a_pickT rfl rfl) ?_
  refine wS_set rfl rfl rfl (a_move rfl rfl) ?_
  refine wS_set rfl rfl rfl (a_move rfl rfl) ?_
  refine wS_set rfl rfl rfl (n_indexAddrV (a := 98) (es := rowI (clsRow exS 256)) rfl rfl (hT rfl) rfl (hT rfl) rfl (exGet (by omega))) ?_
  refine wS_set rfl rfl rfl (a_loadR1 rfl (hT rfl) rfl rfl) ?_
  refine wS_set rfl rfl rfl (n_eqlT (b := 2) ex8 rfl rfl) ?_
  refine wS_set rfl rfl rfl (a_pickT rfl rfl) ?_
  refine wS_set rfl rfl rfl (a_move rfl rfl) ?_
  refine wS_set rfl rfl rfl (a_move rfl rfl) ?_
  refine wS_set rfl rfl rfl (n_indexAddrV (a := 99) (es := rowI (clsRow exS 256)) rfl rfl (hT rfl) rfl (hT rfl) rfl (exGet (by omega))) ?_
  refine wS_set rfl rfl rfl (a_loadR1 rfl (hT rfl) rfl rfl) ?_
  refine wS_set rfl rfl rfl (n_eqlT (b := 3) ex9 rfl rfl) ?_
  refine wS_set rfl rfl rfl (a_pickT rfl rfl) ?_
  refine wS_set rfl rfl rfl (a_move rfl rfl) ?_
  refine wS_set rfl rfl rfl (a_move rfl rfl) ?_
  refine wS_set rfl rfl rfl (n_indexAddrV (a := 100) (es := rowI (clsRow exS 256)) rfl rfl (hT rfl) rfl (hT rfl) rfl (exGet (by omega))) ?_
  refine wS_set rfl rfl rfl (a_loadR1 rfl (hT rfl) rfl rfl) ?_
  refine wS_set rfl rfl rfl (n_eqlT (b := 0) ex10 rfl rfl) ?_
  refine wS_set rfl rfl rfl (a_pickT rfl rfl) ?_
  refine wS_set rfl rfl rfl (a_assign rfl rfl) ?_
  refine wO_nil ?_
  refine wC_ret ?_
  exact end_tmp rfl rfl

end Go.Proofs.YtgjochaacmkpaaaDoor

namespace Go.Proofs.YtgjochaacmkpaaaDoor
open Go Go.Dv

set_option maxRecDepth 100000 in
theorem ev4 {W : List Nat} (hW : isW W) : FnEv tab ext 4 [.v (setV W)] [] (.ret [.sl 1 (rowB (listW W 256)), boolV true], []) := by
  refine fn_goR _ xt4 rfl rfl rfl ?_
  have hL := listW_le W 256
  refine wR_seq ?_
  refine wR_leaf rfl ?_
  refine wC_reg ?_
  refine wS_set rfl rfl rfl (a_box2 rfl (hT rfl) rfl (by rw [List.length_map, hW.1]) rfl) ?_
  refine wS_set rfl rfl rfl (a_alloc (hT rfl) rfl rfl) ?_
  refine wS_set rfl rfl rfl (a_alloc (hT rfl) rfl rfl) ?_
  refine wO_nil ?_
  refine wR_seq ?_
  refine wR_leaf rfl ?_
  refine wC_reg ?_
  refine wS_set rfl rfl rfl (a_load2 (cs := cells W) rfl rfl (hT rfl) rfl (by rw [cells_len hW]; exact Nat.le_refl _) (cells_load hW)) ?_
  refine wS_set rfl rfl rfl (a_its (it := (10, 4)) rfl rfl rfl rfl (by rw [List.length_map, hW.1])) ?_
  refine wS_set rfl rfl rfl (a_assign rfl rfl) ?_
  refine wO_nil ?_
  refine wR_seq ?_
  refine wR_seq ?_
  refine wR_leaf rfl ?_
  refine wC_reg ?_
  refine wS_set rfl rfl rfl (a_move rfl rfl) ?_
  refine wS_set rfl rfl rfl (a_eqNilF rfl rfl (hT rfl) rfl) ?_
  refine wO_nil ?_
  refine wR_cond (p := false) rfl (fun hc => absurd hc (by decide)) (fun _ => ?_)
  refine wR_leaf rfl ?_
  refine wC_skip ?_
  refine wR_seq ?_
  refine wR_leaf rfl ?_
  refine wC_reg ?_
  refine wS_set rfl rfl rfl (a_alloc (hT rfl) rfl rfl) ?_
  refine wO_nil ?_
  refine wR_seq ?_
  refine wR_seq ?_
  refine wR_leaf rfl ?_
  refine wC_reg ?_
  refine wS_set rfl rfl rfl (a_move rfl rfl) ?_
  refine wO_nil ?_
  refine wR_block ?_
  refine wR_range (xs := (listW W 256).map u8V) rfl (itv_set hW) (scal_u8 _) rfl
    (fun pre ob => ∃ l, pre = l.map u8V ∧ AllP ob [(1, .box 1 (cells W)), (2, .box 1 [.nil 1]), (3, .box 1 [.v (boolV false)])] ∧
      ((l = [] ∧ ob 5 = .box 1 [.nil 1]) ∨ (l ≠ [] ∧ ∃ g, ob 5 = .box 1 [.own 19 g 0 l.length] ∧ ob 19 = .row g true 1 (rowB l))))
    ⟨[], rfl, ⟨rfl, rfl, rfl, trivial⟩, .inl ⟨rfl, rfl⟩⟩ (fun pre x post ob1 hsp hi => ?_) (fun ob1 hi => ?_)
  · obtain ⟨l, b, r, hl, hpre, rfl, _⟩ := map_split hsp
    obtain ⟨l', hl', ⟨o1, o2, o3, _⟩, hrow⟩ := hi
    obtain rfl : l' = l := by
      have := hl'.symm.trans hpre
      exact u8V_inj this
    have hlen : l'.length < 256 := by
      have := congrArg List.length hl
      simp at this
      omega
    rcases hrow with ⟨rfl, o5⟩ | ⟨hne, g, o5, o19⟩
    · obtain ⟨k, rfl⟩ := pin_mk (f := ob1) (l := [(1, .box 1 (cells W)), (2, .box 1 [.nil 1]), (3, .box 1 [.v (boolV false)]), (5, .box 1 [.nil 1])]) ⟨o1, o2, o3, o5, trivial⟩
      refine wC_reg ?_
      refine wS_set rfl rfl rfl (a_assign rfl rfl) ?_
      refine wO_nil ?_
      refine wC_block ?_
      refine wC_seq ?_
      refine wC_seq ?_
      refine wC_reg ?_
      refine wS_set rfl rfl rfl (a_load1 rfl rfl (hT rfl) rfl rfl) ?_
      refine wS_set rfl rfl rfl (a_lenN rfl rfl (hT rfl) rfl) ?_
      refine wS_set rfl rfl rfl (b_geq (p := false) (a := 0) (b := 300) rfl rfl (decide_eq_false (by omega))) ?_
      refine wO_nil ?_
      refine wC_cond (p := false) rfl (fun hc => absurd hc (by decide)) (fun _ => ?_)
      refine wC_skip ?_
      refine wC_reg ?_
      refine wS_set rfl rfl rfl (a_load1 rfl rfl (hT rfl) rfl rfl) ?_
      refine wS_set rfl rfl rfl (a_move rfl rfl) ?_
      refine wS_set rfl rfl rfl (a_buildSlice (ys := [byteV b]) rfl (hT rfl) rfl (hT rfl) rfl rfl rfl rfl rfl) ?_
      refine wS_set rfl rfl rfl (a_appendNO (es := [[byteV b]]) rfl rfl rfl rfl rfl (hT rfl) rfl (hT rfl) rfl rfl rfl (by simp [big]) rfl (by simp) rfl) ?_
      refine wS_eff rfl rfl (a_store1 rfl rfl rfl rfl rfl (hT rfl) rfl rfl (Nat.lt_of_lt_of_le (Nat.lt_succ_self _) (Nat.le_of_ble_eq_true rfl))) ?_
      refine wO_nil ?_
      exact ⟨[b], by rw [hl']; rfl, ⟨rfl, rfl, rfl, trivial⟩, .inr ⟨by simp, _, rfl, rfl⟩⟩
    · obtain ⟨k, rfl⟩ := pin_mk (f := ob1) (l := [(1, .box 1 (cells W)), (2, .box 1 [.nil 1]), (3, .box 1 [.v (boolV false)]), (5, .box 1 [.own 19 g 0 l'.length]), (19, .row g true 1 (rowB l'))]) ⟨o1, o2, o3, o5, o19, trivial⟩
      refine wC_reg ?_
      refine wS_set rfl rfl rfl (a_assign rfl rfl) ?_
      refine wO_nil ?_
      refine wC_block ?_
      refine wC_seq ?_
      refine wC_seq ?_
      refine wC_reg ?_
      refine wS_set rfl rfl rfl (a_load1 rfl rfl (hT rfl) rfl rfl) ?_
      refine wS_set rfl rfl rfl (a_lenO rfl rfl (hT rfl) rfl) ?_
      refine wS_set rfl rfl rfl (b_geq (p := false) (b := 300) rfl rfl (decide_eq_false (by omega))) ?_
      refine wO_nil ?_
      refine wC_cond (p := false) rfl (fun hc => absurd hc (by decide)) (fun _ => ?_)
      refine wC_skip ?_
      refine wC_reg ?_
      refine wS_set rfl rfl rfl (a_load1 rfl rfl (hT rfl) rfl rfl) ?_
      refine wS_set rfl rfl rfl (a_move rfl rfl) ?_
      refine wS_set rfl rfl rfl (a_buildSlice (ys := [byteV b]) rfl (hT rfl) rfl (hT rfl) rfl rfl rfl rfl rfl) ?_
      refine wS_set rfl rfl rfl (a_appendOO (es := [[byteV b]]) (es0 := rowB l') (mt := true) (z := 1) rfl rfl rfl rfl rfl rfl (hT rfl) rfl (hT rfl) rfl rfl rfl rfl (by simp [rowB]) (by simp only [big, List.length_singleton]; omega) rfl) ?_
      refine wS_eff rfl rfl (a_store1 rfl rfl rfl rfl rfl (hT rfl) rfl rfl (Nat.lt_of_lt_of_le (Nat.lt_succ_self _) (Nat.le_of_ble_eq_true rfl))) ?_
      refine wO_nil ?_
      exact ⟨l' ++ [b], by rw [hl']; simp, ⟨rfl, rfl, rfl, trivial⟩, .inr ⟨by simp, g + 1, by rw [List.length_append]; rfl, by simp [rowB]; rfl⟩⟩
  · obtain ⟨l', hl', ⟨o1, o2, o3, _⟩, hrow⟩ := hi
    obtain rfl := u8V_inj hl'
    rcases hrow with ⟨he, o5⟩ | ⟨hne, g, o5, o19⟩
    · obtain ⟨k, rfl⟩ := pin_mk (f := ob1) (l := [(1, .box 1 (cells W)), (2, .box 1 [.nil 1]), (3, .box 1 [.v (boolV false)]), (5, .box 1 [.nil 1])]) ⟨o1, o2, o3, o5, trivial⟩
      rw [he]
      refine wR_seq ?_
      refine wR_leaf rfl ?_
      refine wC_reg ?_
      refine wS_set rfl rfl rfl (a_load1 rfl rfl (hT rfl) rfl rfl) ?_
      refine wS_eff rfl rfl (a_storeN rfl rfl rfl (hT rfl) rfl rfl rfl (hT rfl) (Nat.lt_of_lt_of_le (Nat.lt_succ_self _) (Nat.le_of_ble_eq_true rfl))) ?_
      refine wS_eff rfl rfl (a_store1 rfl rfl rfl rfl rfl (hT rfl) rfl rfl (Nat.lt_of_lt_of_le (Nat.lt_succ_self _) (Nat.le_of_ble_eq_true rfl))) ?_
      refine wO_nil ?_
      refine wR_leaf rfl ?_
      refine wC_ret ?_
      exact end_res rfl (.cell1 rfl rfl (hT rfl) rfl rfl .nil (.cell1 rfl rfl (hT rfl) rfl rfl .v .nil)) rfl
    · obtain ⟨k, rfl⟩ := pin_mk (f := ob1) (l := [(1, .box 1 (cells W)), (2, .box 1 [.nil 1]), (3, .box 1 [.v (boolV false)]), (5, .box 1 [.own 19 g 0 (listW W 256).length]), (19, .row g true 1 (rowB (listW W 256)))]) ⟨o1, o2, o3, o5, o19, trivial⟩
      refine wR_seq ?_
      refine wR_leaf rfl ?_
      refine wC_reg ?_
      refine wS_set rfl rfl rfl (a_load1 rfl rfl (hT rfl) rfl rfl) ?_
      refine wS_eff rfl rfl (a_store1 rfl rfl rfl rfl rfl (hT rfl) rfl rfl (Nat.lt_of_lt_of_le (Nat.lt_succ_self _) (Nat.le_of_ble_eq_true rfl))) ?_
      refine wS_eff rfl rfl (a_store1 rfl rfl rfl rfl rfl (hT rfl) rfl rfl (Nat.lt_of_lt_of_le (Nat.lt_succ_self _) (Nat.le_of_ble_eq_true rfl))) ?_
      refine wO_nil ?_
      refine wR_leaf rfl ?_
      refine wC_ret ?_
      exact end_res rfl (.cell1 rfl rfl (hT rfl) rfl rfl (.own rfl (by rw [List.drop_zero, List.take_of_length_le (by simp [rowB])])) (.cell1 rfl rfl (hT rfl) rfl rfl .v .nil)) rfl

end Go.Proofs.YtgjochaacmkpaaaDoor

namespace Go.Proofs.YtgjochaacmkpaaaDoor
open Go Go.Dv

theorem mem_listW {W : List Nat} {b : Nat} : b ∈ listW W 256 ↔ b < 256 ∧ has W b = true := by simp [listW, List.mem_filter]
theorem listW_has {W : List Nat} {i : Nat} (h : i < (listW W 256).length) : (listW W 256).getD i 0 < 256 ∧ has W ((listW W 256).getD i 0) = true := by
  rw [← mem_listW, List.getD_eq_getElem?_getD, List.getElem?_eq_getElem h]
  exact List.getElem_mem h
theorem listW_sorted {W : List Nat} {i : Nat} (h : i + 1 < (listW W 256).length) : (listW W 256).getD i 0 < (listW W 256).getD (i + 1) 0 := by
  have hp : (listW W 256).Pairwise (· < ·) := List.Pairwise.filter _ (List.pairwise_lt_range)
  have := List.pairwise_iff_getElem.1 hp i (i + 1) (by omega) h (by omega)
  rw [List.getD_eq_getElem?_getD, List.getD_eq_getElem?_getD, List.getElem?_eq_getElem h, List.getElem?_eq_getElem (by omega)]
  exact this

set_option maxRecDepth 100000 in
theorem ev3 {W : List Nat} {st : Nat} (hW : isW W) (hs : st < 256) : FnEv tab ext 3 [.v (setV W), .v (byteV st)] [] (.ret [boolV true], []) := by
  refine fn_goR _ xt3 rfl rfl rfl ?_
  have hL := listW_le W 256
  have e1 := rowB_len (listW W 256)
  have e2 := len_law hW
  refine wR_seq ?_
  refine wR_leaf rfl ?_
  refine wC_reg ?_
  refine wS_set rfl rfl rfl (a_box2 rfl (hT rfl) rfl (by rw [List.length_map, hW.1]) rfl) ?_
  refine wS_set rfl rfl rfl (a_box1 rfl rfl rfl (hT rfl) rfl rfl rfl) ?_
  refine wS_set rfl rfl rfl (a_alloc (hT rfl) rfl rfl) ?_
  refine wO_nil ?_
  refine wR_seq ?_
  refine wR_leaf rfl ?_
  refine wC_reg ?_
  refine wS_set rfl rfl rfl (a_load2 (cs := cells W) rfl rfl (hT rfl) rfl (by rw [cells_len hW]; exact Nat.le_refl _) (cells_load hW)) ?_
  refine wS_set rfl rfl rfl (a_call rfl rfl fn4 rfl rfl (ev4 hW)) ?_
  refine wS_set rfl rfl rfl (a_move rfl rfl) ?_
  refine wS_set rfl rfl rfl (a_extract rfl rfl) ?_
  refine wS_set rfl rfl rfl (a_extract rfl rfl) ?_
  refine wS_set rfl rfl rfl (a_alloc (hT rfl) rfl rfl) ?_
  refine wS_eff rfl rfl (a_store1 rfl rfl rfl rfl rfl (hT rfl) rfl rfl (Nat.lt_of_lt_of_le (Nat.lt_succ_self _) (Nat.le_of_ble_eq_true rfl))) ?_
  refine wS_set rfl rfl rfl (a_assign rfl rfl) ?_
  refine wO_nil ?_
  refine wR_seq ?_
  refine wR_seq ?_
  refine wR_leaf rfl ?_
  refine wC_regD (by kernel_rfl) ?_
  refine wS_set rfl rfl rfl (a_move rfl rfl) ?_
  refine wS_set rfl rfl rfl (a_un rfl rfl) ?_
  refine wS_set rfl rfl rfl (a_move rfl rfl) ?_
  refine wS_set rfl rfl rfl (a_load1 rfl rfl (hT rfl) rfl rfl) ?_
  refine wS_set rfl rfl rfl (a_lenV rfl rfl (hT rfl) rfl) ?_
  refine wS_set rfl rfl rfl (a_load2 (cs := cells W) rfl rfl (hT rfl) rfl (by rw [cells_len hW]; exact Nat.le_refl _) (cells_load hW)) ?_
  refine wS_set rfl rfl rfl (a_call rfl rfl fn5 rfl rfl (ev5 hW)) ?_
  refine wS_set rfl rfl rfl (b_neq (p := false) rfl rfl (decide_eq_false (by omega))) ?_
  refine wS_set rfl rfl rfl (a_pickF rfl rfl) ?_
  refine wO_nil ⟨rfl, by kernel_rfl, ?_⟩
  refine wR_cond (p := false) rfl (fun hc => absurd hc (by decide)) (fun _ => ?_)
  refine wR_leaf rfl ?_
  refine wC_skip ?_
  refine wR_seq ?_
  refine wR_seq ?_
  refine wR_leaf rfl ?_
  refine wC_reg ?_
  refine wS_set rfl rfl rfl (a_assign rfl rfl) ?_
  refine wO_nil ?_
  refine wR_block ?_
  refine wR_leaf rfl ?_
  refine wC_loop (fun m ρ => ∃ i, i + m = (listW W 256).length ∧ PinSt 85 [(2, .addr 2 1 0), (3, .addr 3 1 0), (4, .addr 4 1 0), (5, .addr 5 1 0), (7, natX .i64 i)]
      [(2, .box 1 (cells W)), (3, .box 1 [.v (byteV st)]), (4, .box 1 [.v (boolV false)]), (5, .box 1 [.v (.sl 1 (rowB (listW W 256)))]), (8, .none 0)] ρ) (fun m ρ hi => ?_) (listW W 256).length
    ⟨0, by omega, pinned_mk rfl ⟨rfl, rfl, rfl, rfl, rfl, trivial⟩ ⟨rfl, rfl, rfl, rfl, rfl, trivial⟩⟩
  obtain ⟨i, hm, hi⟩ := hi
  replace hi := hi.form
  obtain ⟨g, h, rfl⟩ := hi
  by_cases hlt : i < (listW W 256).length
  · obtain ⟨h1, h2⟩ := listW_has hlt
    have h3 := rowB_at hlt
    cases i with
    | zero =>
      refine wC_seq ?_
      refine wC_seq ?_
      refine wC_reg ?_
      refine wS_set rfl rfl rfl (a_move rfl rfl) ?_
      refine wS_set rfl rfl rfl (a_load1 rfl rfl (hT rfl) rfl rfl) ?_
      refine wS_set rfl rfl rfl (a_lenV rfl rfl (hT rfl) rfl) ?_
      refine wS_set rfl rfl rfl (b_lss (p := true) (a := 0) rfl rfl (decide_eq_true (by omega))) ?_
      refine wO_nil ?_
      refine wC_cond (p := true) rfl (fun _ => ?_) (fun hc => absurd hc (by decide))
      refine wC_skip ?_
      refine wC_seq ?_
      refine wC_block ?_
      refine wC_seq ?_
      refine wC_regD (by kernel_rfl) ?_
      refine wS_set rfl rfl rfl (a_load2 (cs := cells W) rfl rfl (hT rfl) rfl (by rw [cells_len hW]; exact Nat.le_refl _) (cells_load hW)) ?_
      refine wS_set rfl rfl rfl (a_load1 rfl rfl (hT rfl) rfl rfl) ?_
      refine wS_set rfl rfl rfl (a_move rfl rfl) ?_
      refine wS_set rfl rfl rfl (n_indexAddrV (a := 0) rfl rfl (hT rfl) rfl (hT rfl) rfl h3) ?_
      refine wS_set rfl rfl rfl (a_loadR1 rfl (hT rfl) rfl rfl) ?_
      refine wS_set rfl rfl rfl (a_call rfl rfl fn6 rfl rfl (has_is h1 hW h2)) ?_
      refine wS_set rfl rfl rfl (a_un rfl rfl) ?_
      refine wS_set rfl rfl rfl (a_move rfl rfl) ?_
      refine wS_set rfl rfl rfl (a_move rfl rfl) ?_
      refine wS_set rfl rfl rfl (b_gtr (p := false) (a := 0) (b := 0) rfl rfl (decide_eq_false (by omega))) ?_
      refine wS_set rfl rfl rfl (a_move rfl rfl) ?_
      refine wS_skip rfl rfl rfl ?_
      refine wS_skip rfl rfl rfl ?_
      refine wS_skip rfl rfl rfl ?_
      refine wS_skip rfl rfl rfl ?_
      refine wS_skip rfl rfl rfl ?_
      refine wS_skip rfl rfl rfl ?_
      refine wS_skip rfl rfl rfl ?_
      refine wS_skip rfl rfl rfl ?_
      refine wS_skip rfl rfl rfl ?_
      refine wS_skip rfl rfl rfl ?_
      refine wS_set rfl rfl rfl (a_pickF rfl rfl) ?_
      refine wS_set rfl rfl rfl (a_pickF rfl rfl) ?_
      refine wO_nil ⟨rfl, by kernel_rfl, ?_⟩
      refine wC_cond (p := false) rfl (fun hc => absurd hc (by decide)) (fun _ => ?_)
      refine wC_skip ?_
      refine wC_reg ?_
      refine wS_set rfl rfl rfl (a_move rfl rfl) ?_
      refine wS_set rfl rfl rfl (n_add (a := 0) (b := 1) rfl rfl (by simp only [capN]; omega)) ?_
      refine wS_set rfl rfl rfl (a_assign rfl rfl) ?_
      refine wO_nil ?_
      exact ⟨m - 1, by omega, 1, by omega, pinned_mk rfl ⟨rfl, rfl, rfl, rfl, rfl, trivial⟩ ⟨rfl, rfl, rfl, rfl, rfl, trivial⟩⟩
    | succ i =>
      have h4 := listW_sorted hlt
      have h5 := rowB_at (show i < (listW W 256).length by omega)
      refine wC_seq ?_
      refine wC_seq ?_
      refine wC_reg ?_
      refine wS_set rfl rfl rfl (a_move rfl rfl) ?_
      refine wS_set rfl rfl rfl (a_load1 rfl rfl (hT rfl) rfl rfl) ?_
      refine wS_set rfl rfl rfl (a_lenV rfl rfl (hT rfl) rfl) ?_
      refine wS_set rfl rfl rfl (b_lss (p := true) rfl rfl (decide_eq_true (by omega))) ?_
      refine wO_nil ?_
      refine wC_cond (p := true) rfl (fun _ => ?_) (fun hc => absurd hc (by decide))
      refine wC_skip ?_
      refine wC_seq ?_
      refine wC_block ?_
      refine wC_seq ?_
      refine wC_regD (by kernel_rfl) ?_
      refine wS_set rfl rfl rfl (a_load2 (cs := cells W) rfl rfl (hT rfl) rfl (by rw [cells_len hW]; exact Nat.le_refl _) (cells_load hW)) ?_
      refine wS_set rfl rfl rfl (a_load1 rfl rfl (hT rfl) rfl rfl) ?_
      refine wS_set rfl rfl rfl (a_move rfl rfl) ?_
      refine wS_set rfl rfl rfl (n_indexAddrV (a := i + 1) rfl rfl (hT rfl) rfl (hT rfl) rfl h3) ?_
      refine wS_set rfl rfl rfl (a_loadR1 rfl (hT rfl) rfl rfl) ?_
      refine wS_set rfl rfl rfl (a_call rfl rfl fn6 rfl rfl (has_is h1 hW h2)) ?_
      refine wS_set rfl rfl rfl (a_un rfl rfl) ?_
      refine wS_set rfl rfl rfl (a_move rfl rfl) ?_
      refine wS_set rfl rfl rfl (a_move rfl rfl) ?_
      refine wS_set rfl rfl rfl (b_gtr (p := true) (b := 0) rfl rfl (decide_eq_true (by omega))) ?_
      refine wS_set rfl rfl rfl (a_move rfl rfl) ?_
      refine wS_set rfl rfl rfl (a_load1 rfl rfl (hT rfl) rfl rfl) ?_
      refine wS_set rfl rfl rfl (a_move rfl rfl) ?_
      refine wS_set rfl rfl rfl (n_indexAddrV (a := i + 1) rfl rfl (hT rfl) rfl (hT rfl) rfl h3) ?_
      refine wS_set rfl rfl rfl (a_loadR1 rfl (hT rfl) rfl rfl) ?_
      refine wS_set rfl rfl rfl (a_load1 rfl rfl (hT rfl) rfl rfl) ?_
      refine wS_set rfl rfl rfl (a_move rfl rfl) ?_
      refine wS_set rfl rfl rfl (n_sub (a := i + 1) (b := 1) rfl rfl (by omega) (by simp only [capN]; omega)) ?_
      refine wS_set rfl rfl rfl (n_indexAddrV (a := i) rfl rfl (hT rfl) rfl (hT rfl) rfl h5) ?_
      refine wS_set rfl rfl rfl (a_loadR1 rfl (hT rfl) rfl rfl) ?_
      refine wS_set rfl rfl rfl (b_leq (p := false) rfl rfl (decide_eq_false (by omega))) ?_
      refine wS_set rfl rfl rfl (a_pickT rfl rfl) ?_
      refine wS_set rfl rfl rfl (a_pickF rfl rfl) ?_
      refine wO_nil ⟨rfl, by kernel_rfl, ?_⟩
      refine wC_cond (p := false) rfl (fun hc => absurd hc (by decide)) (fun _ => ?_)
      refine wC_skip ?_
      refine wC_reg ?_
      refine wS_set rfl rfl rfl (a_move rfl rfl) ?_
      refine wS_set rfl rfl rfl (n_add (b := 1) rfl rfl (by simp only [capN]; omega)) ?_
      refine wS_set rfl rfl rfl (a_assign rfl rfl) ?_
      refine wO_nil ?_
      exact ⟨m - 1, by omega, i + 1 + 1, by omega, pinned_mk rfl ⟨rfl, rfl, rfl, rfl, rfl, trivial⟩ ⟨rfl, rfl, rfl, rfl, rfl, trivial⟩⟩
  · obtain rfl : i = (listW W 256).length := by omega
    refine wC_seq ?_
    refine wC_seq ?_
    refine wC_reg ?_
    refine wS_set rfl rfl rfl (a_move rfl rfl) ?_
    refine wS_set rfl rfl rfl (a_load1 rfl rfl (hT rfl) rfl rfl) ?_
    refine wS_set rfl rfl rfl (a_lenV rfl rfl (hT rfl) rfl) ?_
    refine wS_set rfl rfl rfl (b_lss (p := false) rfl rfl (decide_eq_false (by omega))) ?_
    refine wO_nil ?_
    refine wC_cond (p := false) rfl (fun hc => absurd hc (by decide)) (fun _ => ?_)
    refine wC_exit ?_
    refine wR_seq ?_
    refine wR_leaf rfl ?_
    refine wC_reg ?_
    refine wS_set rfl rfl rfl (a_alloc (hT rfl) rfl rfl) ?_
    refine wS_eff rfl rfl (a_store1 rfl rfl rfl rfl rfl (hT rfl) rfl rfl (Nat.lt_of_lt_of_le (Nat.lt_succ_self _) (Nat.le_of_ble_eq_true rfl))) ?_
    refine wO_nil ?_
    refine wR_seq ?_
    refine wR_seq ?_
    refine wR_leaf rfl ?_
    refine wC_reg ?_
    refine wS_set rfl rfl rfl (a_load2 (cs := cells W) rfl rfl (hT rfl) rfl (by rw [cells_len hW]; exact Nat.le_refl _) (cells_load hW)) ?_
    refine wS_set rfl rfl rfl (a_its (it := (10, 4)) rfl rfl rfl rfl (by rw [List.length_map, hW.1])) ?_
    refine wO_nil ?_
    refine wR_block ?_
    refine wR_range (xs := (listW W 256).map u8V) rfl (itv_set hW) (scal_u8 _) rfl
      (fun pre ob => ∃ l r, listW W 256 = l ++ r ∧ pre = l.map u8V ∧ l.length ≤ st ∧ AllP ob [(2, .box 1 (cells W)), (3, .box 1 [.v (byteV st)]), (4, .box 1 [.v (boolV false)]), (5, .box 1 [.v (.sl 1 (rowB (listW W 256)))]), (8, .box 1 [natX .i64 l.length])])
      ⟨[], _, rfl, rfl, Nat.zero_le _, ⟨rfl, rfl, rfl, rfl, rfl, trivial⟩⟩ (fun pre x post ob1 hsp hi => ?_) (fun ob1 hi => ?_)
    · obtain ⟨l, b, r, hl, hpre, rfl, _⟩ := map_split hsp
      obtain ⟨l', _, _, hl', hn, ho⟩ := hi
      obtain rfl : l' = l := u8V_inj (hl'.symm.trans hpre)
      obtain ⟨k, rfl⟩ := pin_mk ho
      have hlen : l'.length < (listW W 256).length := by rw [hl]; simp
      have h3 := rowB_at hlen
      have hb : (listW W 256).getD l'.length 0 = b := by rw [hl]; simp [List.getD_eq_getElem?_getD]
      rw [hb] at h3
      by_cases hst : l'.length + 1 ≤ st
      · refine wC_reg ?_
        refine wS_set rfl rfl rfl (a_assign rfl rfl) ?_
        refine wO_nil ?_
        refine wC_block ?_
        refine wC_seq ?_
        refine wC_seq ?_
        refine wC_reg ?_
        refine wS_set rfl rfl rfl (a_load1 rfl rfl (hT rfl) rfl rfl) ?_
        refine wS_set rfl rfl rfl (a_load1 rfl rfl (hT rfl) rfl rfl) ?_
        refine wS_set rfl rfl rfl (a_lenV rfl rfl (hT rfl) rfl) ?_
        refine wS_set rfl rfl rfl (b_geq (p := false) rfl rfl (decide_eq_false (by omega))) ?_
        refine wS_set rfl rfl rfl (a_move rfl rfl) ?_
        refine wS_set rfl rfl rfl (a_move rfl rfl) ?_
        refine wS_set rfl rfl rfl (a_load1 rfl rfl (hT rfl) rfl rfl) ?_
        refine wS_set rfl rfl rfl (a_load1 rfl rfl (hT rfl) rfl rfl) ?_
        refine wS_set rfl rfl rfl (n_indexAddrV (a := l'.length) rfl rfl (hT rfl) rfl (hT rfl) rfl h3) ?_
        refine wS_set rfl rfl rfl (a_loadR1 rfl (hT rfl) rfl rfl) ?_
        refine wS_set rfl rfl rfl (b_neq (p := false) rfl rfl (decide_eq_false (by omega))) ?_
        refine wS_set rfl rfl rfl (a_pickF rfl rfl) ?_
        refine wO_nil ?_
        refine wC_cond (p := false) rfl (fun hc => absurd hc (by decide)) (fun _ => ?_)
        refine wC_skip ?_
        refine wC_seq ?_
        refine wC_reg ?_
        refine wS_set rfl rfl rfl (a_load1 rfl rfl (hT rfl) rfl rfl) ?_
        refine wS_set rfl rfl rfl (n_add (b := 1) rfl rfl (by simp only [capN]; omega)) ?_
        refine wS_eff rfl rfl (a_store1 rfl rfl rfl rfl rfl (hT rfl) rfl rfl (Nat.lt_of_lt_of_le (Nat.lt_succ_self _) (Nat.le_of_ble_eq_true rfl))) ?_
        refine wO_nil ?_
        refine wC_seq ?_
        refine wC_reg ?_
        refine wS_set rfl rfl rfl (a_load1 rfl rfl (hT rfl) rfl rfl) ?_
        refine wS_set rfl rfl rfl (a_load1 rfl rfl (hT rfl) rfl rfl) ?_
        refine wS_set rfl rfl rfl (n_conv rfl (hT rfl) rfl (hT rfl) rfl (by simp only [capN]; omega)) ?_
        refine wS_set rfl rfl rfl (b_gtr (p := false) rfl rfl (decide_eq_false (by omega))) ?_
        refine wO_nil ?_
        refine wC_cond (p := false) rfl (fun hc => absurd hc (by decide)) (fun _ => ?_)
        refine wC_skip ?_
        exact ⟨l' ++ [b], r, by rw [hl]; simp, by rw [hpre]; simp, by simp; omega, ⟨rfl, rfl, rfl, rfl, by rw [List.length_append]; rfl, trivial⟩⟩
      · obtain rfl : l'.length = st := by omega
        refine wC_reg ?_
        refine wS_set rfl rfl rfl (a_assign rfl rfl) ?_
        refine wO_nil ?_
        refine wC_block ?_
        refine wC_seq ?_
        refine wC_seq ?_
        refine wC_reg ?_
        refine wS_set rfl rfl rfl (a_load1 rfl rfl (hT rfl) rfl rfl) ?_
        refine wS_set rfl rfl rfl (a_load1 rfl rfl (hT rfl) rfl rfl) ?_
        refine wS_set rfl rfl rfl (a_lenV rfl rfl (hT rfl) rfl) ?_
        refine wS_set rfl rfl rfl (b_geq (p := false) rfl rfl (decide_eq_false (by omega))) ?_
        refine wS_set rfl rfl rfl (a_move rfl rfl) ?_
        refine wS_set rfl rfl rfl (a_move rfl rfl) ?_
        refine wS_set rfl rfl rfl (a_load1 rfl rfl (hT rfl) rfl rfl) ?_
        refine wS_set rfl rfl rfl (a_load1 rfl rfl (hT rfl) rfl rfl) ?_
        refine wS_set rfl rfl rfl (n_indexAddrV (a := l'.length) rfl rfl (hT rfl) rfl (hT rfl) rfl h3) ?_
        refine wS_set rfl rfl rfl (a_loadR1 rfl (hT rfl) rfl rfl) ?_
        refine wS_set rfl rfl rfl (b_neq (p := false) rfl rfl (decide_eq_false (by omega))) ?_
        refine wS_set rfl rfl rfl (a_pickF rfl rfl) ?_
        refine wO_nil ?_
        refine wC_cond (p := false) rfl (fun hc => absurd hc (by decide)) (fun _ => ?_)
        refine wC_skip ?_
        refine wC_seq ?_
        refine wC_reg ?_
        refine wS_set rfl rfl rfl (a_load1 rfl rfl (hT rfl) rfl rfl) ?_
        refine wS_set rfl rfl rfl (n_add (b := 1) rfl rfl (by simp only [capN]; omega)) ?_
        refine wS_eff rfl rfl (a_store1 rfl rfl rfl rfl rfl (hT rfl) rfl rfl (Nat.lt_of_lt_of_le (Nat.lt_succ_self _) (Nat.le_of_ble_eq_true rfl))) ?_
        refine wO_nil ?_
        refine wC_seq ?_
        refine wC_reg ?_
        refine wS_set rfl rfl rfl (a_load1 rfl rfl (hT rfl) rfl rfl) ?_
        refine wS_set rfl rfl rfl (a_load1 rfl rfl (hT rfl) rfl rfl) ?_
        refine wS_set rfl rfl rfl (n_conv rfl (hT rfl) rfl (hT rfl) rfl (by simp only [capN]; omega)) ?_
        refine wS_set rfl rfl rfl (b_gtr (p := true) rfl rfl (decide_eq_true (by omega))) ?_
        refine wO_nil ?_
        refine wC_cond (p := true) rfl (fun _ => ?_) (fun hc => absurd hc (by decide))
        refine wC_exit ?_
        refine wR_seq ?_
        refine wR_leaf rfl ?_
        refine wC_reg ?_
        refine wS_set rfl rfl rfl (a_call rfl rfl fn8 rfl rfl (ev8)) ?_
        refine wS_set rfl rfl rfl (a_move rfl rfl) ?_
        refine wS_set rfl rfl rfl (a_load1 rfl rfl (hT rfl) rfl rfl) ?_
        refine wS_set rfl rfl rfl (a_load1 rfl rfl (hT rfl) rfl rfl) ?_
        refine wS_set rfl rfl rfl (a_lenV rfl rfl (hT rfl) rfl) ?_
        refine wS_set rfl rfl rfl (a_load1 rfl rfl (hT rfl) rfl rfl) ?_
        refine wS_set rfl rfl rfl (n_conv rfl (hT rfl) rfl (hT rfl) rfl (by simp only [capN]; omega)) ?_
        refine wS_set rfl rfl rfl (n_add (b := 1) rfl rfl (by simp only [capN]; omega)) ?_
        refine wS_set rfl rfl rfl (n_min2 rfl rfl) ?_
        refine wS_set rfl rfl rfl (b_eql (p := true) rfl rfl (decide_eq_true (by omega))) ?_
        refine wS_set rfl rfl rfl (a_pickT rfl rfl) ?_
        refine wS_eff rfl rfl (a_store1 rfl rfl rfl rfl rfl (hT rfl) rfl rfl (Nat.lt_of_lt_of_le (Nat.lt_succ_self _) (Nat.le_of_ble_eq_true rfl))) ?_
        refine wO_nil ?_
        refine wR_leaf rfl ?_
        refine wC_ret ?_
        exact end_res rfl (.cell1 rfl rfl (hT rfl) rfl rfl .v .nil) rfl
    · obtain ⟨l', r, hl, hpre, hn, ho⟩ := hi
      obtain rfl := u8V_inj hpre
      obtain ⟨k, rfl⟩ := pin_mk ho
      refine wR_seq ?_
      refine wR_leaf rfl ?_
      refine wC_reg ?_
      refine wS_set rfl rfl rfl (a_call rfl rfl fn8 rfl rfl (ev8)) ?_
      refine wS_set rfl rfl rfl (a_move rfl rfl) ?_
      refine wS_set rfl rfl rfl (a_load1 rfl rfl (hT rfl) rfl rfl) ?_
      refine wS_set rfl rfl rfl (a_load1 rfl rfl (hT rfl) rfl rfl) ?_
      refine wS_set rfl rfl rfl (a_lenV rfl rfl (hT rfl) rfl) ?_
      refine wS_set rfl rfl rfl (a_load1 rfl rfl (hT rfl) rfl rfl) ?_
      refine wS_set rfl rfl rfl (n_conv rfl (hT rfl) rfl (hT rfl) rfl (by simp only [capN]; omega)) ?_
      refine wS_set rfl rfl rfl (n_add (b := 1) rfl rfl (by simp only [capN]; omega)) ?_
      refine wS_set rfl rfl rfl (n_min2 rfl rfl) ?_
      refine wS_set rfl rfl rfl (b_eql (p := true) rfl rfl (decide_eq_true (by omega))) ?_
      refine wS_set rfl rfl rfl (a_pickT rfl rfl) ?_
      refine wS_eff rfl rfl (a_store1 rfl rfl rfl rfl rfl (hT rfl) rfl rfl (Nat.lt_of_lt_of_le (Nat.lt_succ_self _) (Nat.le_of_ble_eq_true rfl))) ?_
      refine wO_nil ?_
      refine wR_leaf rfl ?_
      refine wC_ret ?_
      exact end_res rfl (.cell1 rfl rfl (hT rfl) rfl rfl .v .nil) rfl

end Go.Proofs.YtgjochaacmkpaaaDoor

namespace Go.Proofs.YtgjochaacmkpaaaDoor
open Go Go.Dv

open Go.ChangeShapes Go.WideShapes Go.ChangeAt Go.RowKit

def tt : List Nat := [24, 22, 5, 9]
theorem plain : plainB Tryd.prog tt = true := by kernel_rfl
theorem own : ownKnob Tryd.prog.godebug = none := by kernel_rfl
theorem laidOut : laidOutB Tryd.prog = true := by kernel_rfl

/-! ### the table of the library -/
abbrev laidT : List (String × DataW Unit) := [("math/bits.deBruijn64tab", Rows.laid_math_bits_deBruijn64tab)]
theorem gTab : Tryd.prog.globalNamed "math/bits.deBruijn64tab" = some 0 := by kernel_rfl
theorem tTab : (Tryd.prog.globals[0]?).map (·.type) = some 42 := by kernel_rfl
theorem datum : (Rows.laid_math_bits_deBruijn64tab : DataW Unit) = .agg (Lib.deBruijn64tab.map fun n : Nat => .lit (.int .u8 (n : Int))) := by rfl

theorem door_met (os : Os) (args : Array Value) : laidMetH Tryd.prog laidT ((World.doorLaid Tryd.prog 400 os).forCall (fun _ _ => 0) ⟨#[], args, []⟩).memory :=
  laidMetH_of_parts3 (fuel := 8) (laidMet_of_run' 8 (by kernel_rfl) (by kernel_rfl)) (by kernel_rfl) (by kernel_rfl)

theorem tab_at {W : World} (h : laidMetH Tryd.prog laidT W) : ∀ b o v, tab.gm b o = some v → wmem W b o = some v := by
  intro b o v hv
  obtain ⟨rfl, hv2⟩ := tab_gm hv
  clear hv
  rw [MakeChecks.laidMetH_plain _ _ _ (by kernel_rfl)] at h
  obtain ⟨ps, ⟨g0, t0, cs0, f0, p0, q0, hg0, ht0, hv0, hd0, _⟩, _, _⟩ := h
  obtain rfl := Option.some.inj (gTab.symm.trans hg0)
  obtain rfl := Option.some.inj (tTab.symm.trans ht0)
  obtain ⟨xs, m1, rfl, hx1, hlen, hn3, hel⟩ := DataW.trod_array Tryd.underlying42 hd0
  have c5 : Tryd.prog.cellsOf 5 = 1 := by kernel_rfl
  rw [datum] at hx1
  simp only [Prod.mk.injEq, DataW.agg.injEq] at hx1
  rw [Option.map_eq_some_iff] at hv2
  obtain ⟨n, hn, rfl⟩ := hv2
  have ho : o < 64 := (List.getElem?_eq_some_iff.1 hn).1
  have hxo : xs[o]? = some (xs[o]'(by omega)) := List.getElem?_eq_getElem (by omega)
  have h1 : (xs[o]'(by omega)).1 = .lit (.int .u8 (n : Int)) := by
    have e := congrArg (fun l => l[o]?) hx1.1
    simp only [List.getElem?_map, hn, hxo, Option.map_some, Option.some.injEq] at e
    exact e.symm
  have h2 := hel o ho
  rw [hxo, c5] at h2
  obtain ⟨k, e1, e2, _⟩ := DataW.trod_int Tryd.underlying5 h2
  have hk : k = (n : Int) := by
    rw [e2] at h1
    simpa using h1
  subst hk
  have hc := World.var?_cell hg0 hv0 o
  show W.cell? ⟨0, o, none⟩ = _
  rw [hc]
  rw [Nat.mul_one] at e1
  have e3 : (cs0.toList.drop o)[0]? = some (.int .u8 (n : Int)) := by
    have := congrArg (fun l => l[0]?) e1
    simpa using this
  rw [List.getElem?_drop, Nat.add_zero, Array.getElem?_toList] at e3
  exact e3

theorem typed_u8 {y : V} (h : TypedV Tryd.prog 5 y) : ∃ b : Nat, b < 256 ∧ y = byteV b := by
  have h : Typed Tryd.prog 5 [y] := h
  have hu : Tryd.prog.underlying 5 = some (.int .u8) := by kernel_rfl
  generalize hy : [y] = l at h
  cases h with
  | int h n hw =>
    rw [hu] at h; cases h
    have : 0 ≤ n ∧ n ≤ 255 := by simpa [Lit.wf, IntKind.min, IntKind.max, IntKind.signed, IntKind.bits] using hw
    refine ⟨n.toNat, by omega, ?_⟩
    have e : y = .lit (.int .u8 n) := by simpa using hy
    rw [e, byteV, Int.toNat_of_nonneg this.1]
  | string h => rw [hu] at h; cases h
  | bool h => rw [hu] at h; cases h
  | slice h => rw [hu] at h; cases h
  | struct h => rw [hu] at h; cases h
  | array h => rw [hu] at h; cases h
theorem typed_string {y : V} (h : TypedV Tryd.prog 9 y) : ∃ s : ByteArray, y = strV s := by
  have h : Typed Tryd.prog 9 [y] := h
  have hu : Tryd.prog.underlying 9 = some .string := by kernel_rfl
  generalize hy : [y] = l at h
  cases h with
  | string _ s _ => exact ⟨s, by simpa [strV] using hy⟩
  | bool h => rw [hu] at h; cases h
  | int h => rw [hu] at h; cases h
  | slice h => rw [hu] at h; cases h
  | struct h => rw [hu] at h; cases h
  | array h => rw [hu] at h; cases h
theorem typed_w {y : V} (h : Typed Tryd.prog 22 [y]) : ∃ n : Nat, n < 2 ^ 64 ∧ y = word n := by
  have hu : Tryd.prog.underlying 22 = some (.int .u64) := by kernel_rfl
  generalize hy : [y] = l at h
  cases h with
  | int h n hw =>
    rw [hu] at h; cases h
    have : 0 ≤ n ∧ n ≤ 18446744073709551615 := by simpa [Lit.wf, IntKind.min, IntKind.max, IntKind.signed, IntKind.bits] using hw
    refine ⟨n.toNat, by omega, ?_⟩
    have e : y = .lit (.int .u64 n) := by simpa using hy
    rw [e, word, Int.toNat_of_nonneg this.1]
  | string h => rw [hu] at h; cases h
  | bool h => rw [hu] at h; cases h
  | slice h => rw [hu] at h; cases h
  | struct h => rw [hu] at h; cases h
  | array h => rw [hu] at h; cases h
theorem typed_words {cs : List V} (h : Typed Tryd.prog 24 cs) : ∃ W, isW W ∧ cs = W.map word := by
  have hu : Tryd.prog.underlying 24 = some (.array 4 22) := by kernel_rfl
  have hc : Tryd.prog.cellsOf 22 = 1 := by kernel_rfl
  cases h with
  | array h cs hl hr =>
    rw [hu] at h; cases h
    rw [hc] at hl hr
    match cs, hl with
    | [a, b, c, d], _ =>
      obtain ⟨w0, k0, rfl⟩ := typed_w (hr 0 (by omega))
      obtain ⟨w1, k1, rfl⟩ := typed_w (hr 1 (by omega))
      obtain ⟨w2, k2, rfl⟩ := typed_w (hr 2 (by omega))
      obtain ⟨w3, k3, rfl⟩ := typed_w (hr 3 (by omega))
      refine ⟨[w0, w1, w2, w3], ⟨rfl, fun i => ?_⟩, rfl⟩
      match i with
      | 0 => exact k0
      | 1 => exact k1
      | 2 => exact k2
      | 3 => exact k3
      | i + 4 => exact (by decide : (0 : Nat) < 2 ^ 64)
  | string h => rw [hu] at h; cases h
  | bool h => rw [hu] at h; cases h
  | int h => rw [hu] at h; cases h
  | slice h => rw [hu] at h; cases h
  | struct h => rw [hu] at h; cases h
theorem typed_set {y : V} (h : TypedV Tryd.prog 24 y) : ∃ W, isW W ∧ y = setV W := by
  obtain ⟨cs, rfl, k⟩ := (h : ∃ cs, y = .agg cs ∧ Typed Tryd.prog 24 cs)
  obtain ⟨W, hW, rfl⟩ := typed_words k
  exact ⟨W, hW, rfl⟩

end Go.Proofs.YtgjochaacmkpaaaDoor
