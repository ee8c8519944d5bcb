/-
  What is proved here: the law of refinement answers true over the evaluator. Conditions: words below 2^64, bytes below 256.
-/
import Derived.Test.YtgjochaacmkpaaaWalkB

namespace Go.Proofs.Ytgjochaacmkpaaa
open Go.Dv

theorem clsK_step (S : List (List Nat)) (i : Nat) : (clsK S (i + 1)).length = if cls S i = (clsK S i).length then (clsK S i).length + 1 else (clsK S i).length := by
  simp only [clsK]
  by_cases h : keyW S i ∈ clsK S i
  · rw [if_pos h, if_neg]
    have := List.idxOf_lt_length_iff.2 h
    unfold cls
    omega
  · rw [if_neg h, if_pos (show cls S i = _ from List.idxOf_eq_length h)]
    simp
theorem key_app (S : List (List Nat)) (M : List Nat) (a : Nat) : keyW (S ++ [M]) a = keyW S a ++ [has M a] := by simp [keyW]
theorem same_step {S : List (List Nat)} {i a b : Nat} (h : i < S.length) : eqvW (S.take (i + 1)) a b = (eqvW (S.take i) a b && (has (S.getD i []) a == has (S.getD i []) b)) := by
  rw [take_succ' h]
  unfold eqvW
  rw [List.all_append]
  simp
theorem get_row (S : List (List Nat)) {a : Nat} (h : a < 256) : (rowI (clsRow S 256))[a]? = some [natV (cls S a)] := by
  rw [rowI_get (by rw [clsRow_len]; exact h), clsRow_get _ h]
theorem same_cls (S : List (List Nat)) (a b : Nat) : decide (cls S a = cls S b) = eqvW S a b := by
  rw [eqv_key]
  exact decide_eq_decide.2 (cls_eq S)
theorem same_app (S : List (List Nat)) (M : List Nat) (a b : Nat) : decide (cls (S ++ [M]) a = cls (S ++ [M]) b) = (eqvW S a b && (has M a == has M b)) := by
  rw [same_cls]
  unfold eqvW
  rw [List.all_append]
  simp
theorem row_app (S : List (List Nat)) (M : List Nat) : ((([] ++ rowS S) ++ [M.map word]).drop 0).take (0 + (rowS S).length + 1) = rowS (S ++ [M]) := by
  have : [] ++ rowS S ++ [M.map word] = rowS (S ++ [M]) := by simp [rowS]
  rw [this, List.drop_zero, List.take_of_length_le]
  simp [rowS]

theorem set_part {M : List Nat} (hM : isW M) : setParts (List.replicate 1 (zeroW.map word)) [(0, setV M)] = some [M.map word] := by
  obtain ⟨h, _⟩ := hM
  match M, h with
  | [a, b, c, d], _ => rfl

set_option maxRecDepth 100000 in
theorem ev5 {S : List (List Nat)} {M : List Nat} {a b : Nat} (hS : ∀ W ∈ S, isW W) (hM : isW M) (ha : a < 256) (hb : b < 256) : FnEv tab ext0 5 [.v (.sl 4 (rowS S)), .v (setV M), .v (.agg [byteV a, byteV b])] [] (.ret [boolV true], []) := by
  have e1 := rowS_len S
  have hSM : ∀ W ∈ S ++ [M], isW W := fun W h => by
    rcases List.mem_append.1 h with h | h
    · exact hS W h
    · rw [List.mem_singleton.1 h]; exact hM
  refine fn_go _ rfl fn5 rfl rfl rfl ?_
  refine wC_seq ?_
  refine wC_reg ?_
  refine wS_set rfl rfl rfl (a_boxW hM rfl (hT rfl) rfl rfl rfl) ?_
  refine wS_set rfl rfl rfl (a_box2 rfl (hT rfl) rfl rfl rfl) ?_
  refine wS_set rfl rfl rfl (a_assign rfl rfl) ?_
  refine wO_nil ?_
  refine wC_seq ?_
  refine wC_seq ?_
  refine wC_reg ?_
  refine wS_set rfl rfl rfl (a_move rfl rfl) ?_
  refine wS_set rfl rfl rfl (a_lenV rfl rfl (hT rfl) rfl) ?_
  refine wS_set rfl rfl rfl (n_gtr (b := 12) rfl rfl ) ?_
  refine wO_nil ?_
  refine wC_cond rfl (fun hc => ?_) (fun hc => ?_)
  · refine wC_seq ?_
    refine wC_reg ?_
    refine wS_set rfl rfl rfl (a_call rfl rfl fn8 rfl rfl (ev8)) ?_
    refine wS_set rfl rfl rfl (a_assign rfl rfl) ?_
    refine wO_nil ?_
    refine wC_ret ?_
    exact end_tmp rfl rfl
  have hs : ¬ (rowS S).length > 12 := of_decide_eq_false hc
  have hlen : (rowI (clsRow S 256)).length = 256 := by rw [rowI_len, clsRow_len]
  have hlen' : (rowI (clsRow (S ++ [M]) 256)).length = 256 := by rw [rowI_len, clsRow_len]
  refine wC_skip ?_
  refine wC_seq ?_
  refine wC_regD (by kernel_rfl) ?_
  refine wS_set rfl rfl rfl (a_move rfl rfl) ?_
  refine wS_set rfl rfl rfl (a_call rfl rfl fn16 rfl rfl (ev16V hS (by omega))) ?_
  refine wS_set rfl rfl rfl (a_buildSlice (ys := []) (es := []) rfl (hT rfl) rfl (hT rfl) rfl rfl rfl rfl rfl) ?_
  refine wS_set rfl rfl rfl (a_move rfl rfl) ?_
  refine wS_set rfl rfl rfl (a_appendOV rfl rfl rfl rfl (hT rfl) rfl (hT rfl) rfl rfl rfl rfl rfl (by simp only [big]; omega) rfl) ?_
  refine wS_set rfl rfl rfl (a_load2 rfl rfl (hT rfl) rfl (by rw [cells_len (by assumption)]; exact Nat.le_refl _) (cells_load (by assumption))) ?_
  refine wS_set rfl rfl rfl (a_buildSlice (ys := [setV M]) (es := [M.map word]) rfl (hT rfl) rfl (hT rfl) rfl rfl (set_part hM) rfl rfl) ?_
  refine wS_set rfl rfl rfl (a_appendOO (es := [M.map word]) rfl rfl rfl rfl rfl rfl (hT rfl) rfl (hT rfl) rfl rfl rfl rfl (by simp) (by simp only [big, List.length_singleton]; omega) rfl) ?_
  refine wS_set rfl rfl rfl (a_call (rd := [21]) rfl rfl fn16 rfl (by rw [← row_app]; rfl) (ev16L hSM (by rw [List.length_append, List.length_singleton]; omega))) ?_
  refine wS_set rfl rfl rfl (a_assign rfl rfl) ?_
  refine wS_set rfl rfl rfl (a_assign rfl rfl) ?_
  refine wO_nil ⟨rfl, by kernel_rfl, ?_⟩
  refine wC_seq ?_
  refine wC_seq ?_
  refine wC_reg ?_
  refine wS_set rfl rfl rfl (a_move rfl rfl) ?_
  refine wS_set rfl rfl rfl (a_lenV rfl rfl (hT rfl) rfl) ?_
  refine wS_set rfl rfl rfl (n_neqF (b := 256) (fun e => e hlen) rfl rfl) ?_
  refine wS_set rfl rfl rfl (a_move rfl rfl) ?_
  refine wS_set rfl rfl rfl (a_move rfl rfl) ?_
  refine wS_set rfl rfl rfl (a_lenV rfl rfl (hT rfl) rfl) ?_
  refine wS_set rfl rfl rfl (n_neqF (b := 256) (fun e => e hlen') rfl rfl) ?_
  refine wS_set rfl rfl rfl (a_pickF rfl rfl) ?_
  refine wO_nil ?_
  refine wC_cond (p := false) rfl (fun hc => absurd hc (by decide)) (fun _ => ?_)
  refine wC_skip ?_
  refine wC_seq ?_
  refine wC_regD (by kernel_rfl) ?_
  refine wS_set rfl rfl rfl (n_indexAddrA (a := 0) rfl rfl (hT rfl) rfl (hT rfl) (by omega)) ?_
  refine wS_set rfl rfl rfl (a_load1 rfl rfl (hT rfl) rfl rfl) ?_
  refine wS_set rfl rfl rfl (n_indexAddrA (a := 1) rfl rfl (hT rfl) rfl (hT rfl) (by omega)) ?_
  refine wS_set rfl rfl rfl (a_load1 rfl rfl (hT rfl) rfl rfl) ?_
  refine wS_set rfl rfl rfl (a_assign rfl rfl) ?_
  refine wS_set rfl rfl rfl (a_assign rfl rfl) ?_
  refine wO_nil ⟨rfl, by kernel_rfl, ?_⟩
  refine wC_seq ?_
  refine wC_reg ?_
  refine wS_set rfl rfl rfl (a_assign rfl rfl) ?_
  refine wO_nil ?_
  refine wC_seq ?_
  refine wC_seq ?_
  refine wC_reg ?_
  refine wS_set rfl rfl rfl (a_assign rfl rfl) ?_
  refine wO_nil ?_
  refine wC_block ?_
  refine wC_loop (fun k ρ => ∃ i, i + k = S.length ∧ ∃ p, p = eqvW (S.take i) a b ∧ PinSt 123 [(0, .v (.sl 4 (rowS S))), (4, .addr 4 1 0), (7, .v (.sl 1 (rowI (clsRow S 256)))), (8, .v (.sl 1 (rowI (clsRow (S ++ [M]) 256)))), (9, .v (byteV a)), (10, .v (byteV b)), (11, .v (boolV p)), (12, natX .i64 i)]
      [(4, .box 1 (cells M))] ρ) (fun k ρ hi => ?_) S.length
    ⟨0, by omega, true, rfl, pinned_mk rfl ⟨rfl, rfl, rfl, rfl, rfl, rfl, rfl, rfl, trivial⟩ ⟨rfl, trivial⟩⟩
  obtain ⟨i, hm, p, hp, hi⟩ := hi
  replace hi := hi.form
  obtain ⟨g, h, rfl⟩ := hi
  refine wC_seq ?_
  refine wC_seq ?_
  refine wC_reg ?_
  refine wS_set rfl rfl rfl (a_move rfl rfl) ?_
  refine wS_set rfl rfl rfl (a_move rfl rfl) ?_
  refine wS_set rfl rfl rfl (a_lenV rfl rfl (hT rfl) rfl) ?_
  refine wS_set rfl rfl rfl (n_lss rfl rfl ) ?_
  refine wO_nil ?_
  refine wC_cond rfl (fun hc => ?_) (fun hc => ?_)
  · have hi : i < S.length := by rw [← e1]; simpa using hc
    have hW := hS _ (getD_mem hi)
    have hg := rowS_get hi
    have hst := same_step (a := a) (b := b) hi
    cases p with
    | true =>
      refine wC_skip ?_
      refine wC_seq ?_
      refine wC_block ?_
      refine wC_regD (by kernel_rfl) ?_
      refine wS_set rfl rfl rfl (a_move rfl rfl) ?_
      refine wS_set rfl rfl rfl (a_move rfl rfl) ?_
      refine wS_set rfl rfl rfl (a_move rfl rfl) ?_
      refine wS_set rfl rfl rfl (a_move rfl rfl) ?_
      refine wS_set rfl rfl rfl (n_indexAddrV (a := i) (es := rowS S) rfl rfl (hT rfl) rfl (hT rfl) rfl hg) ?_
      refine wS_set rfl rfl rfl (loadS (by assumption) rfl (hT rfl) rfl rfl) ?_
      refine wS_set rfl rfl rfl (a_move rfl rfl) ?_
      refine wS_set rfl rfl rfl (a_call rfl rfl fn13 rfl rfl (has_ev (by omega) (by assumption))) ?_
      refine wS_set rfl rfl rfl (a_move rfl rfl) ?_
      refine wS_set rfl rfl rfl (a_move rfl rfl) ?_
      refine wS_set rfl rfl rfl (n_indexAddrV (a := i) (es := rowS S) rfl rfl (hT rfl) rfl (hT rfl) rfl hg) ?_
      refine wS_set rfl rfl rfl (loadS (by assumption) rfl (hT rfl) rfl rfl) ?_
      refine wS_set rfl rfl rfl (a_move rfl rfl) ?_
      refine wS_set rfl rfl rfl (a_call rfl rfl fn13 rfl rfl (has_ev (by omega) (by assumption))) ?_
      refine wS_set rfl rfl rfl (a_binB rfl rfl (hT rfl) rfl rfl) ?_
      refine wS_set rfl rfl rfl (a_pickT rfl rfl) ?_
      refine wS_set rfl rfl rfl (a_assign rfl rfl) ?_
      refine wO_nil ⟨rfl, by kernel_rfl, ?_⟩
      refine wC_reg ?_
      refine wS_set rfl rfl rfl (a_move rfl rfl) ?_
      refine wS_set rfl rfl rfl (n_add (b := 1) rfl rfl (by simp only [capN]; omega)) ?_
      refine wS_set rfl rfl rfl (a_assign rfl rfl) ?_
      refine wO_nil ?_
      refine ⟨k - 1, by omega, i + 1, by omega, _, ?_, pinned_mk rfl ⟨rfl, rfl, rfl, rfl, rfl, rfl, rfl, rfl, trivial⟩ ⟨rfl, trivial⟩⟩
      rw [hst, ← hp, Bool.true_and]
    | false =>
      refine wC_skip ?_
      refine wC_seq ?_
      refine wC_block ?_
      refine wC_regD (by kernel_rfl) ?_
      refine wS_set rfl rfl rfl (a_move rfl rfl) ?_
      refine wS_set rfl rfl rfl (a_move rfl rfl) ?_
      refine wS_skip rfl rfl rfl ?_
      refine wS_skip rfl rfl rfl ?_
      refine wS_skip rfl rfl rfl ?_
      refine wS_skip rfl rfl rfl ?_
      refine wS_skip rfl rfl rfl ?_
      refine wS_skip rfl rfl rfl ?_
      refine wS_skip rfl rfl rfl ?_
      refine wS_skip rfl rfl rfl ?_
      refine wS_skip rfl rfl rfl ?_
      refine wS_skip rfl rfl rfl ?_
      refine wS_skip rfl rfl rfl ?_
      refine wS_skip rfl rfl rfl ?_
      refine wS_skip rfl rfl rfl ?_
      refine wS_set rfl rfl rfl (a_pickF rfl rfl) ?_
      refine wS_set rfl rfl rfl (a_assign rfl rfl) ?_
      refine wO_nil ⟨rfl, by kernel_rfl, ?_⟩
      refine wC_reg ?_
      refine wS_set rfl rfl rfl (a_move rfl rfl) ?_
      refine wS_set rfl rfl rfl (n_add (b := 1) rfl rfl (by simp only [capN]; omega)) ?_
      refine wS_set rfl rfl rfl (a_assign rfl rfl) ?_
      refine wO_nil ?_
      refine ⟨k - 1, by omega, i + 1, by omega, _, ?_, pinned_mk rfl ⟨rfl, rfl, rfl, rfl, rfl, rfl, rfl, rfl, trivial⟩ ⟨rfl, trivial⟩⟩
      rw [hst, ← hp, Bool.false_and]
  obtain rfl : i = S.length := by
    have : ¬ i < S.length := by rw [← e1]; simpa using hc
    omega
  rw [List.take_length] at hp
  refine wC_exit ?_
  refine wC_seq ?_
  refine wC_reg ?_
  refine wS_set rfl rfl rfl (a_assign rfl rfl) ?_
  refine wO_nil ?_
  refine wC_seq ?_
  refine wC_seq ?_
  refine wC_reg ?_
  refine wS_set rfl rfl rfl (a_assign rfl rfl) ?_
  refine wO_nil ?_
  refine wC_block ?_
  refine wC_loop (fun k ρ => ∃ i, i + k = 256 ∧ PinSt 123 [(0, .v (.sl 4 (rowS S))), (4, .addr 4 1 0), (7, .v (.sl 1 (rowI (clsRow S 256)))), (8, .v (.sl 1 (rowI (clsRow (S ++ [M]) 256)))), (9, .v (byteV a)), (10, .v (byteV b)), (11, .v (boolV p)), (13, natX .i64 (clsK S i).length), (14, natX .i64 i)]
      [(4, .box 1 (cells M))] ρ) (fun k ρ hi => ?_) 256
    ⟨0, by omega, pinned_mk rfl ⟨rfl, rfl, rfl, rfl, rfl, rfl, rfl, rfl, rfl, trivial⟩ ⟨rfl, trivial⟩⟩
  clear hm h g
  obtain ⟨i, hm, hi⟩ := hi
  replace hi := hi.form
  obtain ⟨g, h, rfl⟩ := hi
  refine wC_seq ?_
  refine wC_seq ?_
  refine wC_reg ?_
  refine wS_set rfl rfl rfl (a_move rfl rfl) ?_
  refine wS_set rfl rfl rfl (n_lss (b := 256) rfl rfl ) ?_
  refine wO_nil ?_
  refine wC_cond rfl (fun hc => ?_) (fun hc => ?_)
  · have hi : i < 256 := by simpa using hc
    have hg := get_row S hi
    have hle := cls_le S i
    have hst := clsK_step S i
    have hk := clsK_le S i
    refine wC_skip ?_
    refine wC_seq ?_
    refine wC_block ?_
    refine wC_seq ?_
    refine wC_seq ?_
    refine wC_reg ?_
    refine wS_set rfl rfl rfl (a_move rfl rfl) ?_
    refine wS_set rfl rfl rfl (a_move rfl rfl) ?_
    refine wS_set rfl rfl rfl (n_indexAddrV (a := i) (es := rowI (clsRow S 256)) rfl rfl (hT rfl) rfl (hT rfl) rfl hg) ?_
    refine wS_set rfl rfl rfl (a_loadR1 rfl (hT rfl) rfl rfl) ?_
    refine wS_set rfl rfl rfl (a_move rfl rfl) ?_
    refine wS_set rfl rfl rfl (n_gtrF (a := cls S i) (b := (clsK S i).length) (by omega) rfl rfl) ?_
    refine wS_set rfl rfl rfl (a_move rfl rfl) ?_
    refine wS_set rfl rfl rfl (a_move rfl rfl) ?_
    refine wS_set rfl rfl rfl (a_move rfl rfl) ?_
    refine wS_set rfl rfl rfl (n_indexAddrV (a := i) (es := rowI (clsRow S 256)) rfl rfl (hT rfl) rfl (hT rfl) rfl hg) ?_
    refine wS_set rfl rfl rfl (a_loadR1 rfl (hT rfl) rfl rfl) ?_
    refine wS_set rfl rfl rfl (n_lssF (a := cls S i) (b := 0) (Nat.not_lt_zero _) rfl rfl) ?_
    refine wS_set rfl rfl rfl (a_pickF rfl rfl) ?_
    refine wO_nil ?_
    refine wC_cond (p := false) rfl (fun hc => absurd hc (by decide)) (fun _ => ?_)
    refine wC_skip ?_
    refine wC_seq ?_
    refine wC_reg ?_
    refine wS_set rfl rfl rfl (a_move rfl rfl) ?_
    refine wS_set rfl rfl rfl (a_move rfl rfl) ?_
    refine wS_set rfl rfl rfl (n_indexAddrV (a := i) (es := rowI (clsRow S 256)) rfl rfl (hT rfl) rfl (hT rfl) rfl hg) ?_
    refine wS_set rfl rfl rfl (a_loadR1 rfl (hT rfl) rfl rfl) ?_
    refine wS_set rfl rfl rfl (a_move rfl rfl) ?_
    refine wS_set rfl rfl rfl (n_eql (a := cls S i) (b := (clsK S i).length) rfl rfl) ?_
    refine wO_nil ?_
    refine wC_cond rfl (fun hc => ?_) (fun hc => ?_)
    · rw [if_pos (of_decide_eq_true hc)] at hst
      refine wC_reg ?_
      refine wS_set rfl rfl rfl (a_move rfl rfl) ?_
      refine wS_set rfl rfl rfl (n_add (b := 1) rfl rfl (by simp only [capN]; omega)) ?_
      refine wS_set rfl rfl rfl (a_assign rfl rfl) ?_
      refine wO_nil ?_
      refine wC_reg ?_
      refine wS_set rfl rfl rfl (a_move rfl rfl) ?_
      refine wS_set rfl rfl rfl (n_add (b := 1) rfl rfl (by simp only [capN]; omega)) ?_
      refine wS_set rfl rfl rfl (a_assign rfl rfl) ?_
      refine wO_nil ?_
      exact ⟨k - 1, by omega, i + 1, by omega, pinned_mk rfl ⟨rfl, rfl, rfl, rfl, rfl, rfl, rfl, congrArg (natX .i64) hst.symm, rfl, trivial⟩ ⟨rfl, trivial⟩⟩
    · rw [if_neg (of_decide_eq_false hc)] at hst
      refine wC_skip ?_
      refine wC_reg ?_
      refine wS_set rfl rfl rfl (a_move rfl rfl) ?_
      refine wS_set rfl rfl rfl (n_add (b := 1) rfl rfl (by simp only [capN]; omega)) ?_
      refine wS_set rfl rfl rfl (a_assign rfl rfl) ?_
      refine wO_nil ?_
      exact ⟨k - 1, by omega, i + 1, by omega, pinned_mk rfl ⟨rfl, rfl, rfl, rfl, rfl, rfl, rfl, congrArg (natX .i64) hst.symm, rfl, trivial⟩ ⟨rfl, trivial⟩⟩
  have ga := get_row S ha
  have gb := get_row S hb
  have ga' := get_row (S ++ [M]) ha
  have gb' := get_row (S ++ [M]) hb
  have sc := same_cls S a b
  have sa := same_app S M a b
  rw [← hp] at sc sa
  cases p with
  | true =>
    rw [Bool.true_and] at sa
    refine wC_exit ?_
    refine wC_seq ?_
    refine wC_regD (by kernel_rfl) ?_
    refine wS_set rfl rfl rfl (a_call rfl rfl fn8 rfl rfl (ev8)) ?_
    refine wS_set rfl rfl rfl (a_move rfl rfl) ?_
    refine wS_set rfl rfl rfl (a_move rfl rfl) ?_
    refine wS_set rfl rfl rfl (a_move rfl rfl) ?_
    refine wS_set rfl rfl rfl (n_indexAddrV (a := a) (es := rowI (clsRow S 256)) rfl rfl (hT rfl) rfl (hT rfl) rfl ga) ?_
    refine wS_set rfl rfl rfl (a_loadR1 rfl (hT rfl) rfl rfl) ?_
    refine wS_set rfl rfl rfl (a_move rfl rfl) ?_
    refine wS_set rfl rfl rfl (a_move rfl rfl) ?_
    refine wS_set rfl rfl rfl (n_indexAddrV (a := b) (es := rowI (clsRow S 256)) rfl rfl (hT rfl) rfl (hT rfl) rfl gb) ?_
    refine wS_set rfl rfl rfl (a_loadR1 rfl (hT rfl) rfl rfl) ?_
    refine wS_set rfl rfl rfl (n_eql (a := cls S a) (b := cls S b) rfl rfl) ?_
    refine wS_set rfl rfl rfl (a_move rfl rfl) ?_
    refine wS_set rfl rfl rfl (a_binBT (eqlB sc) rfl rfl (hT rfl) rfl) ?_
    refine wS_set rfl rfl rfl (a_pickT rfl rfl) ?_
    refine wS_set rfl rfl rfl (a_move rfl rfl) ?_
    refine wS_set rfl rfl rfl (a_move rfl rfl) ?_
    refine wS_set rfl rfl rfl (a_move rfl rfl) ?_
    refine wS_set rfl rfl rfl (n_indexAddrV (a := a) (es := rowI (clsRow (S ++ [M]) 256)) rfl rfl (hT rfl) rfl (hT rfl) rfl ga') ?_
    refine wS_set rfl rfl rfl (a_loadR1 rfl (hT rfl) rfl rfl) ?_
    refine wS_set rfl rfl rfl (a_move rfl rfl) ?_
    refine wS_set rfl rfl rfl (a_move rfl rfl) ?_
    refine wS_set rfl rfl rfl (n_indexAddrV (a := b) (es := rowI (clsRow (S ++ [M]) 256)) rfl rfl (hT rfl) rfl (hT rfl) rfl gb') ?_
    refine wS_set rfl rfl rfl (a_loadR1 rfl (hT rfl) rfl rfl) ?_
    refine wS_set rfl rfl rfl (n_eql (a := cls (S ++ [M]) a) (b := cls (S ++ [M]) b) rfl rfl) ?_
    refine wS_set rfl rfl rfl (a_move rfl rfl) ?_
    refine wS_set rfl rfl rfl (a_move rfl rfl) ?_
    refine wS_set rfl rfl rfl (a_load2 rfl rfl (hT rfl) rfl (by rw [cells_len (by assumption)]; exact Nat.le_refl _) (cells_load (by assumption))) ?_
    refine wS_set rfl rfl rfl (a_move rfl rfl) ?_
    refine wS_set rfl rfl rfl (a_call rfl rfl fn13 rfl rfl (has_ev (by omega) (by assumption))) ?_
    refine wS_set rfl rfl rfl (a_load2 rfl rfl (hT rfl) rfl (by rw [cells_len (by assumption)]; exact Nat.le_refl _) (cells_load (by assumption))) ?_
    refine wS_set rfl rfl rfl (a_move rfl rfl) ?_
    refine wS_set rfl rfl rfl (a_call rfl rfl fn13 rfl rfl (has_ev (by omega) (by assumption))) ?_
    refine wS_set rfl rfl rfl (a_binB rfl rfl (hT rfl) rfl rfl) ?_
    refine wS_set rfl rfl rfl (a_pickT rfl rfl) ?_
    refine wS_set rfl rfl rfl (a_binBT (eqlB sa) rfl rfl (hT rfl) rfl) ?_
    refine wS_set rfl rfl rfl (a_pickT rfl rfl) ?_
    refine wS_set rfl rfl rfl (a_assign rfl rfl) ?_
    refine wO_nil ⟨rfl, by kernel_rfl, ?_⟩
    refine wC_ret ?_
    exact end_tmp rfl rfl
  | false =>
    rw [Bool.false_and] at sa
    refine wC_exit ?_
    refine wC_seq ?_
    refine wC_regD (by kernel_rfl) ?_
    refine wS_set rfl rfl rfl (a_call rfl rfl fn8 rfl rfl (ev8)) ?_
    refine wS_set rfl rfl rfl (a_move rfl rfl) ?_
    refine wS_set rfl rfl rfl (a_move rfl rfl) ?_
    refine wS_set rfl rfl rfl (a_move rfl rfl) ?_
    refine wS_set rfl rfl rfl (n_indexAddrV (a := a) (es := rowI (clsRow S 256)) rfl rfl (hT rfl) rfl (hT rfl) rfl ga) ?_
    refine wS_set rfl rfl rfl (a_loadR1 rfl (hT rfl) rfl rfl) ?_
    refine wS_set rfl rfl rfl (a_move rfl rfl) ?_
    refine wS_set rfl rfl rfl (a_move rfl rfl) ?_
    refine wS_set rfl rfl rfl (n_indexAddrV (a := b) (es := rowI (clsRow S 256)) rfl rfl (hT rfl) rfl (hT rfl) rfl gb) ?_
    refine wS_set rfl rfl rfl (a_loadR1 rfl (hT rfl) rfl rfl) ?_
    refine wS_set rfl rfl rfl (n_eql (a := cls S a) (b := cls S b) rfl rfl) ?_
    refine wS_set rfl rfl rfl (a_move rfl rfl) ?_
    refine wS_set rfl rfl rfl (a_binBT (eqlB sc) rfl rfl (hT rfl) rfl) ?_
    refine wS_set rfl rfl rfl (a_pickT rfl rfl) ?_
    refine wS_set rfl rfl rfl (a_move rfl rfl) ?_
    refine wS_set rfl rfl rfl (a_move rfl rfl) ?_
    refine wS_set rfl rfl rfl (a_move rfl rfl) ?_
    refine wS_set rfl rfl rfl (n_indexAddrV (a := a) (es := rowI (clsRow (S ++ [M]) 256)) rfl rfl (hT rfl) rfl (hT rfl) rfl ga') ?_
    refine wS_set rfl rfl rfl (a_loadR1 rfl (hT rfl) rfl rfl) ?_
    refine wS_set rfl rfl rfl (a_move rfl rfl) ?_
    refine wS_set rfl rfl rfl (a_move rfl rfl) ?_
    refine wS_set rfl rfl rfl (n_indexAddrV (a := b) (es := rowI (clsRow (S ++ [M]) 256)) rfl rfl (hT rfl) rfl (hT rfl) rfl gb') ?_
    refine wS_set rfl rfl rfl (a_loadR1 rfl (hT rfl) rfl rfl) ?_
    refine wS_set rfl rfl rfl (n_eql (a := cls (S ++ [M]) a) (b := cls (S ++ [M]) b) rfl rfl) ?_
    refine wS_set rfl rfl rfl (a_move rfl rfl) ?_
    refine wS_set rfl rfl rfl (a_move rfl rfl) ?_
    refine wS_skip rfl rfl rfl ?_
    refine wS_skip rfl rfl rfl ?_
    refine wS_skip rfl rfl rfl ?_
    refine wS_skip rfl rfl rfl ?_
    refine wS_skip rfl rfl rfl ?_
    refine wS_skip rfl rfl rfl ?_
    refine wS_skip rfl rfl rfl ?_
    refine wS_set rfl rfl rfl (a_pickF rfl rfl) ?_
    refine wS_set rfl rfl rfl (a_binBT (eqlB sa) rfl rfl (hT rfl) rfl) ?_
    refine wS_set rfl rfl rfl (a_pickT rfl rfl) ?_
    refine wS_set rfl rfl rfl (a_assign rfl rfl) ?_
    refine wO_nil ⟨rfl, by kernel_rfl, ?_⟩
    refine wC_ret ?_
    exact end_tmp rfl rfl
end Go.Proofs.Ytgjochaacmkpaaa
