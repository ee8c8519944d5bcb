/-
  What is proved here: concatenation, union and the derivative of expressions, as the program computes them. Conditions: those that stand at each theorem.
-/
import Derived.Test.YtjppkpjlbbkdnaaDoorWalkA

namespace Go.Proofs.YtjppkpjlbbkdnaaDoor
open Go Go.Dv

set_option maxRecDepth 100000 in
set_option maxHeartbeats 4000000 in
theorem ev64 {B : Nat} (hB : B ≤ 4611686018427387904) : ∀ (a : Rx), a.wf B → ∀ (b : Rx), b.wf B → FnEv tab ext 64 [.v (rxV a), .v (rxV b)] [] (.ret [boolV (eqR a b)], []) := by
  intro a
  induction a using Rx.ind' with
  | h a ih =>
    intro ha b hb
    have la := ha.len
    have lb := hb.len
    refine fn_go _ no64 fn64 rfl rfl rfl ?_
    rw [eqR_eq]
    by_cases h1 : a.k = b.k
    · rw [decide_eq_true h1, Bool.true_and]
      by_cases h2 : a.s = b.s
      · rw [decide_eq_true h2, Bool.true_and]
        by_cases h3 : a.l.length = b.l.length
        · rw [decide_eq_true h3, Bool.true_and, show eqRs a.l b.l = eqRs (a.l.drop 0) (b.l.drop 0) by rw [List.drop_zero, List.drop_zero]]
          refine wC_seq ?_
          refine wC_reg ?_
          refine wS_set rfl rfl rfl (a_boxRx (by assumption) rfl (hT rfl) rfl rfl rfl) ?_
          refine wS_set rfl rfl rfl (a_boxRx (by assumption) rfl (hT rfl) rfl rfl rfl) ?_
          refine wS_set rfl rfl rfl (a_assign rfl rfl) ?_
          refine wO_nil ?_
          refine wC_seq ?_
          refine wC_seq ?_
          refine wC_reg ?_
          refine wS_set rfl rfl rfl (a_fieldAddrA rfl (hT rfl) rfl rfl (hT rfl) rfl) ?_
          refine wS_set rfl rfl rfl (a_loadK rfl rfl (hT rfl) rfl) ?_
          refine wS_set rfl rfl rfl (a_fieldAddrA rfl (hT rfl) rfl rfl (hT rfl) rfl) ?_
          refine wS_set rfl rfl rfl (a_loadK rfl rfl (hT rfl) rfl) ?_
          refine wS_set rfl rfl rfl (i_neq (p := false) rfl rfl (decide_eq_false (by omega))) ?_
          refine wS_set rfl rfl rfl (a_move rfl rfl) ?_
          refine wS_set rfl rfl rfl (a_fieldAddrA rfl (hT rfl) rfl rfl (hT rfl) rfl) ?_
          refine wS_set rfl rfl rfl (a_loadSet (by assumption) rfl rfl (hT rfl) rfl rfl) ?_
          refine wS_set rfl rfl rfl (a_fieldAddrA rfl (hT rfl) rfl rfl (hT rfl) rfl) ?_
          refine wS_set rfl rfl rfl (a_loadSet (by assumption) rfl rfl (hT rfl) rfl rfl) ?_
          refine wS_set rfl rfl rfl (a_neSet (p := true) ha.set hb.set (decide_eq_true (by assumption)) rfl rfl rfl) ?_
          refine wS_set rfl rfl rfl (a_pickF rfl rfl) ?_
          refine wS_set rfl rfl rfl (a_move rfl rfl) ?_
          refine wS_set rfl rfl rfl (a_fieldAddrA rfl (hT rfl) rfl rfl (hT rfl) rfl) ?_
          refine wS_set rfl rfl rfl (a_loadKids (by assumption) rfl rfl (hT rfl) rfl) ?_
          refine wS_set rfl rfl rfl (a_lenK rfl rfl (hT rfl) rfl) ?_
          refine wS_set rfl rfl rfl (a_fieldAddrA rfl (hT rfl) rfl rfl (hT rfl) rfl) ?_
          refine wS_set rfl rfl rfl (a_loadKids (by assumption) rfl rfl (hT rfl) rfl) ?_
          refine wS_set rfl rfl rfl (a_lenK rfl rfl (hT rfl) rfl) ?_
          refine wS_set rfl rfl rfl (b_neq (p := false) rfl rfl (decide_eq_false (by omega))) ?_
          refine wS_set rfl rfl rfl (a_pickF rfl rfl) ?_
          refine wO_nil ?_
          refine wC_cond (p := false) rfl (fun hc => absurd hc (by decide)) (fun _ => ?_)
          refine wC_skip ?_
          refine wC_seq ?_
          refine wC_seq ?_
          refine wC_reg ?_
          refine wS_set rfl rfl rfl (a_fieldAddrA rfl (hT rfl) rfl rfl (hT rfl) rfl) ?_
          refine wS_set rfl rfl rfl (a_loadKids (by assumption) rfl rfl (hT rfl) rfl) ?_
          refine wS_set rfl rfl rfl (a_lenK rfl rfl (hT rfl) rfl) ?_
          refine wS_set rfl rfl rfl (a_move rfl rfl) ?_
          refine wO_nil ?_
          refine wC_block ?_
          refine wC_loop (fun m ρ => ∃ i : Nat, i + m = a.l.length ∧ eqRs (a.l.drop 0) (b.l.drop 0) = eqRs (a.l.drop i) (b.l.drop i) ∧
              PinSt 46 [(2, .addr 2 1 0), (3, .addr 3 1 0), (29, natX .i64 a.l.length), (30, natX .i64 i)] [(2, .box 1 (rxB a)), (3, .box 1 (rxB b))] ρ) (fun m ρ hi => ?_) a.l.length
            ⟨0, by omega, rfl, pinned_mk rfl ⟨rfl, rfl, rfl, rfl, trivial⟩ ⟨rfl, rfl, trivial⟩⟩
          obtain ⟨i, hm, hsh, hi⟩ := hi
          replace hi := hi.form
          obtain ⟨g, h, rfl⟩ := hi
          by_cases hlt : i < a.l.length
          · have ga : a.l[i]? = some (a.l[i]'hlt) := List.getElem?_eq_getElem hlt
            have gb : b.l[i]? = some (b.l[i]'(by omega)) := List.getElem?_eq_getElem (by omega)
            have wa := ha.at ga
            have wb := hb.at gb
            cases hv : eqR (a.l[i]'hlt) (b.l[i]'(by omega)) with
            | true =>
              refine wC_seq ?_
              refine wC_reg ?_
              refine wS_set rfl rfl rfl (b_lss (p := true) rfl rfl (decide_eq_true (by omega))) ?_
              refine wO_nil ?_
              refine wC_seq ?_
              refine wC_cond (p := true) rfl (fun _ => ?_) (fun hc => absurd hc (by decide))
              refine wC_skip ?_
              refine wC_seq ?_
              refine wC_block ?_
              refine wC_seq ?_
              refine wC_reg ?_
              refine wS_set rfl rfl rfl (a_move rfl rfl) ?_
              refine wS_set rfl rfl rfl (a_assign rfl rfl) ?_
              refine wO_nil ?_
              refine wC_seq ?_
              refine wC_regD (by kernel_rfl) ?_
              refine wS_set rfl rfl rfl (a_fieldAddrA rfl (hT rfl) rfl rfl (hT rfl) rfl) ?_
              refine wS_set rfl rfl rfl (a_loadKids (by assumption) rfl rfl (hT rfl) rfl) ?_
              refine wS_set rfl rfl rfl (a_move rfl rfl) ?_
              refine wS_set rfl rfl rfl (n_kid ga rfl rfl (hT rfl) rfl (hT rfl) rfl) ?_
              refine wS_set rfl rfl rfl (a_loadRxR (by assumption) rfl (hT rfl) rfl rfl) ?_
              refine wS_set rfl rfl rfl (a_fieldAddrA rfl (hT rfl) rfl rfl (hT rfl) rfl) ?_
              refine wS_set rfl rfl rfl (a_loadKids (by assumption) rfl rfl (hT rfl) rfl) ?_
              refine wS_set rfl rfl rfl (a_move rfl rfl) ?_
              refine wS_set rfl rfl rfl (n_kid gb rfl rfl (hT rfl) rfl (hT rfl) rfl) ?_
              refine wS_set rfl rfl rfl (a_loadRxR (by assumption) rfl (hT rfl) rfl rfl) ?_
              refine wS_set rfl rfl rfl (a_call rfl rfl fn64 rfl rfl (hv ▸ ih _ (List.getElem_mem hlt) wa _ wb)) ?_
              refine wS_set rfl rfl rfl (a_un rfl rfl) ?_
              refine wO_nil ⟨rfl, by kernel_rfl, ?_⟩
              refine wC_cond (p := false) rfl (fun hc => absurd hc (by decide)) (fun _ => ?_)
              refine wC_skip ?_
              refine wC_reg ?_
              refine wS_set rfl rfl rfl (n_add (b := 1) rfl rfl (by simp only [capN]; omega)) ?_
              refine wS_set rfl rfl rfl (a_move rfl rfl) ?_
              refine wO_nil ?_
              exact ⟨m - 1, by omega, i + 1, by omega, by rw [hsh, eqRs_drop ga gb, hv, Bool.true_and], pinned_mk rfl ⟨rfl, rfl, rfl, rfl, trivial⟩ ⟨rfl, rfl, trivial⟩⟩
            | false =>
              rw [hsh, eqRs_drop ga gb, hv, Bool.false_and]
              refine wC_seq ?_
              refine wC_reg ?_
              refine wS_set rfl rfl rfl (b_lss (p := true) rfl rfl (decide_eq_true (by omega))) ?_
              refine wO_nil ?_
              refine wC_seq ?_
              refine wC_cond (p := true) rfl (fun _ => ?_) (fun hc => absurd hc (by decide))
              refine wC_skip ?_
              refine wC_seq ?_
              refine wC_block ?_
              refine wC_seq ?_
              refine wC_reg ?_
              refine wS_set rfl rfl rfl (a_move rfl rfl) ?_
              refine wS_set rfl rfl rfl (a_assign rfl rfl) ?_
              refine wO_nil ?_
              refine wC_seq ?_
              refine wC_regD (by kernel_rfl) ?_
              refine wS_set rfl rfl rfl (a_fieldAddrA rfl (hT rfl) rfl rfl (hT rfl) rfl) ?_
              refine wS_set rfl rfl rfl (a_loadKids (by assumption) rfl rfl (hT rfl) rfl) ?_
              refine wS_set rfl rfl rfl (a_move rfl rfl) ?_
              refine wS_set rfl rfl rfl (n_kid ga rfl rfl (hT rfl) rfl (hT rfl) rfl) ?_
              refine wS_set rfl rfl rfl (a_loadRxR (by assumption) rfl (hT rfl) rfl rfl) ?_
              refine wS_set rfl rfl rfl (a_fieldAddrA rfl (hT rfl) rfl rfl (hT rfl) rfl) ?_
              refine wS_set rfl rfl rfl (a_loadKids (by assumption) rfl rfl (hT rfl) rfl) ?_
              refine wS_set rfl rfl rfl (a_move rfl rfl) ?_
              refine wS_set rfl rfl rfl (n_kid gb rfl rfl (hT rfl) rfl (hT rfl) rfl) ?_
              refine wS_set rfl rfl rfl (a_loadRxR (by assumption) rfl (hT rfl) rfl rfl) ?_
              refine wS_set rfl rfl rfl (a_call rfl rfl fn64 rfl rfl (hv ▸ ih _ (List.getElem_mem hlt) wa _ wb)) ?_
              refine wS_set rfl rfl rfl (a_un rfl rfl) ?_
              refine wO_nil ⟨rfl, by kernel_rfl, ?_⟩
              refine wC_cond (p := true) rfl (fun _ => ?_) (fun hc => absurd hc (by decide))
              refine wC_seq ?_
              refine wC_reg ?_
              refine wS_set rfl rfl rfl (a_assign rfl rfl) ?_
              refine wO_nil ?_
              refine wC_ret ?_
              exact end_tmp rfl rfl
          · obtain rfl : i = a.l.length := by omega
            rw [hsh, List.drop_eq_nil_of_le (Nat.le_refl _), List.drop_eq_nil_of_le (Nat.le_of_eq h3.symm), eqRs]
            refine wC_seq ?_
            refine wC_reg ?_
            refine wS_set rfl rfl rfl (b_lss (p := false) rfl rfl (decide_eq_false (by omega))) ?_
            refine wO_nil ?_
            refine wC_seq ?_
            refine wC_cond (p := false) rfl (fun hc => absurd hc (by decide)) (fun _ => ?_)
            refine wC_exit ?_
            refine wC_seq ?_
            refine wC_reg ?_
            refine wS_set rfl rfl rfl (a_assign rfl rfl) ?_
            refine wO_nil ?_
            refine wC_ret ?_
            exact end_tmp rfl rfl
        · rw [decide_eq_false h3, Bool.false_and]
          refine wC_seq ?_
          refine wC_reg ?_
          refine wS_set rfl rfl rfl (a_boxRx (by assumption) rfl (hT rfl) rfl rfl rfl) ?_
          refine wS_set rfl rfl rfl (a_boxRx (by assumption) rfl (hT rfl) rfl rfl rfl) ?_
          refine wS_set rfl rfl rfl (a_assign rfl rfl) ?_
          refine wO_nil ?_
          refine wC_seq ?_
          refine wC_seq ?_
          refine wC_reg ?_
          refine wS_set rfl rfl rfl (a_fieldAddrA rfl (hT rfl) rfl rfl (hT rfl) rfl) ?_
          refine wS_set rfl rfl rfl (a_loadK rfl rfl (hT rfl) rfl) ?_
          refine wS_set rfl rfl rfl (a_fieldAddrA rfl (hT rfl) rfl rfl (hT rfl) rfl) ?_
          refine wS_set rfl rfl rfl (a_loadK rfl rfl (hT rfl) rfl) ?_
          refine wS_set rfl rfl rfl (i_neq (p := false) rfl rfl (decide_eq_false (by omega))) ?_
          refine wS_set rfl rfl rfl (a_move rfl rfl) ?_
          refine wS_set rfl rfl rfl (a_fieldAddrA rfl (hT rfl) rfl rfl (hT rfl) rfl) ?_
          refine wS_set rfl rfl rfl (a_loadSet (by assumption) rfl rfl (hT rfl) rfl rfl) ?_
          refine wS_set rfl rfl rfl (a_fieldAddrA rfl (hT rfl) rfl rfl (hT rfl) rfl) ?_
          refine wS_set rfl rfl rfl (a_loadSet (by assumption) rfl rfl (hT rfl) rfl rfl) ?_
          refine wS_set rfl rfl rfl (a_neSet (p := true) ha.set hb.set (decide_eq_true (by assumption)) rfl rfl rfl) ?_
          refine wS_set rfl rfl rfl (a_pickF rfl rfl) ?_
          refine wS_set rfl rfl rfl (a_move rfl rfl) ?_
          refine wS_set rfl rfl rfl (a_fieldAddrA rfl (hT rfl) rfl rfl (hT rfl) rfl) ?_
          refine wS_set rfl rfl rfl (a_loadKids (by assumption) rfl rfl (hT rfl) rfl) ?_
          refine wS_set rfl rfl rfl (a_lenK rfl rfl (hT rfl) rfl) ?_
          refine wS_set rfl rfl rfl (a_fieldAddrA rfl (hT rfl) rfl rfl (hT rfl) rfl) ?_
          refine wS_set rfl rfl rfl (a_loadKids (by assumption) rfl rfl (hT rfl) rfl) ?_
          refine wS_set rfl rfl rfl (a_lenK rfl rfl (hT rfl) rfl) ?_
          refine wS_set rfl rfl rfl (b_neq (p := true) rfl rfl (decide_eq_true (by omega))) ?_
          refine wS_set rfl rfl rfl (a_pickF rfl rfl) ?_
          refine wO_nil ?_
          refine wC_cond (p := true) rfl (fun _ => ?_) (fun hc => absurd hc (by decide))
          refine wC_seq ?_
          refine wC_reg ?_
          refine wS_set rfl rfl rfl (a_assign rfl rfl) ?_
          refine wO_nil ?_
          refine wC_ret ?_
          exact end_tmp rfl rfl
      · rw [decide_eq_false h2, Bool.false_and]
        refine wC_seq ?_
        refine wC_reg ?_
        refine wS_set rfl rfl rfl (a_boxRx (by assumption) rfl (hT rfl) rfl rfl rfl) ?_
        refine wS_set rfl rfl rfl (a_boxRx (by assumption) rfl (hT rfl) rfl rfl rfl) ?_
        refine wS_set rfl rfl rfl (a_assign rfl rfl) ?_
        refine wO_nil ?_
        refine wC_seq ?_
        refine wC_seq ?_
        refine wC_reg ?_
        refine wS_set rfl rfl rfl (a_fieldAddrA rfl (hT rfl) rfl rfl (hT rfl) rfl) ?_
        refine wS_set rfl rfl rfl (a_loadK rfl rfl (hT rfl) rfl) ?_
        refine wS_set rfl rfl rfl (a_fieldAddrA rfl (hT rfl) rfl rfl (hT rfl) rfl) ?_
        refine wS_set rfl rfl rfl (a_loadK rfl rfl (hT rfl) rfl) ?_
        refine wS_set rfl rfl rfl (i_neq (p := false) rfl rfl (decide_eq_false (by omega))) ?_
        refine wS_set rfl rfl rfl (a_move rfl rfl) ?_
        refine wS_set rfl rfl rfl (a_fieldAddrA rfl (hT rfl) rfl rfl (hT rfl) rfl) ?_
        refine wS_set rfl rfl rfl (a_loadSet (by assumption) rfl rfl (hT rfl) rfl rfl) ?_
        refine wS_set rfl rfl rfl (a_fieldAddrA rfl (hT rfl) rfl rfl (hT rfl) rfl) ?_
        refine wS_set rfl rfl rfl (a_loadSet (by assumption) rfl rfl (hT rfl) rfl rfl) ?_
        refine wS_set rfl rfl rfl (a_neSet (p := false) ha.set hb.set (decide_eq_false (by assumption)) rfl rfl rfl) ?_
        refine wS_set rfl rfl rfl (a_pickF rfl rfl) ?_
        refine wS_set rfl rfl rfl (a_move rfl rfl) ?_
        refine wS_skip rfl rfl rfl ?_
        refine wS_skip rfl rfl rfl ?_
        refine wS_skip rfl rfl rfl ?_
        refine wS_skip rfl rfl rfl ?_
        refine wS_skip rfl rfl rfl ?_
        refine wS_skip rfl rfl rfl ?_
        refine wS_skip rfl rfl rfl ?_
        refine wS_set rfl rfl rfl (a_pickT rfl rfl) ?_
        refine wO_nil ?_
        refine wC_cond (p := true) rfl (fun _ => ?_) (fun hc => absurd hc (by decide))
        refine wC_seq ?_
        refine wC_reg ?_
        refine wS_set rfl rfl rfl (a_assign rfl rfl) ?_
        refine wO_nil ?_
        refine wC_ret ?_
        exact end_tmp rfl rfl
    · rw [decide_eq_false h1, Bool.false_and]
      refine wC_seq ?_
      refine wC_reg ?_
      refine wS_set rfl rfl rfl (a_boxRx (by assumption) rfl (hT rfl) rfl rfl rfl) ?_
      refine wS_set rfl rfl rfl (a_boxRx (by assumption) rfl (hT rfl) rfl rfl rfl) ?_
      refine wS_set rfl rfl rfl (a_assign rfl rfl) ?_
      refine wO_nil ?_
      refine wC_seq ?_
      refine wC_seq ?_
      refine wC_reg ?_
      refine wS_set rfl rfl rfl (a_fieldAddrA rfl (hT rfl) rfl rfl (hT rfl) rfl) ?_
      refine wS_set rfl rfl rfl (a_loadK rfl rfl (hT rfl) rfl) ?_
      refine wS_set rfl rfl rfl (a_fieldAddrA rfl (hT rfl) rfl rfl (hT rfl) rfl) ?_
      refine wS_set rfl rfl rfl (a_loadK rfl rfl (hT rfl) rfl) ?_
      refine wS_set rfl rfl rfl (i_neq (p := true) rfl rfl (decide_eq_true (by omega))) ?_
      refine wS_set rfl rfl rfl (a_move rfl rfl) ?_
      refine wS_skip rfl rfl rfl ?_
      refine wS_skip rfl rfl rfl ?_
      refine wS_skip rfl rfl rfl ?_
      refine wS_skip rfl rfl rfl ?_
      refine wS_skip rfl rfl rfl ?_
      refine wS_set rfl rfl rfl (a_pickT rfl rfl) ?_
      refine wS_set rfl rfl rfl (a_move rfl rfl) ?_
      refine wS_skip rfl rfl rfl ?_
      refine wS_skip rfl rfl rfl ?_
      refine wS_skip rfl rfl rfl ?_
      refine wS_skip rfl rfl rfl ?_
      refine wS_skip rfl rfl rfl ?_
      refine wS_skip rfl rfl rfl ?_
      refine wS_skip rfl rfl rfl ?_
      refine wS_set rfl rfl rfl (a_pickT rfl rfl) ?_
      refine wO_nil ?_
      refine wC_cond (p := true) rfl (fun _ => ?_) (fun hc => absurd hc (by decide))
      refine wC_seq ?_
      refine wC_reg ?_
      refine wS_set rfl rfl rfl (a_assign rfl rfl) ?_
      refine wO_nil ?_
      refine wC_ret ?_
      exact end_tmp rfl rfl

set_option maxRecDepth 100000 in
set_option maxHeartbeats 4000000 in
theorem ev25 {B : Nat} (hB : B ≤ 4611686018427387904) : ∀ (r : Rx), r.wf B → FnEv tab ext 25 [.v (rxV r)] [] (.ret [boolV (nul r)], []) := by
  intro r
  induction r using Rx.ind' with
  | h r ih =>
    intro hw
    have hlen := hw.len
    refine fn_go _ no25 fn25 rfl rfl rfl ?_
    rw [nul_eq]
    by_cases h26 : r.k = 2 ∨ r.k = 6
    · rw [if_pos h26]
      rcases h26 with hk | hk
      · refine wC_seq ?_
        refine wC_reg ?_
        refine wS_set rfl rfl rfl (a_boxRx (by assumption) rfl (hT rfl) rfl rfl rfl) ?_
        refine wS_set rfl rfl rfl (a_assign rfl rfl) ?_
        refine wO_nil ?_
        refine wC_seq ?_
        refine wC_seq ?_
        refine wC_reg ?_
        refine wS_set rfl rfl rfl (a_fieldAddrA rfl (hT rfl) rfl rfl (hT rfl) rfl) ?_
        refine wS_set rfl rfl rfl (a_loadK rfl rfl (hT rfl) rfl) ?_
        refine wO_nil ?_
        refine wC_block ?_
        refine wC_seq ?_
        refine wC_seq ?_
        refine wC_reg ?_
        refine wS_set rfl rfl rfl (i_eql (p := true) rfl rfl (decide_eq_true (by omega))) ?_
        refine wS_set rfl rfl rfl (a_assign rfl rfl) ?_
        refine wO_nil ?_
        refine wC_cond (p := true) rfl (fun _ => ?_) (fun hc => absurd hc (by decide))
        refine wC_skip ?_
        refine wC_cond (p := true) rfl (fun _ => ?_) (fun hc => absurd hc (by decide))
        refine wC_seq ?_
        refine wC_reg ?_
        refine wS_set rfl rfl rfl (a_assign rfl rfl) ?_
        refine wO_nil ?_
        refine wC_ret ?_
        exact end_tmp rfl rfl
      · refine wC_seq ?_
        refine wC_reg ?_
        refine wS_set rfl rfl rfl (a_boxRx (by assumption) rfl (hT rfl) rfl rfl rfl) ?_
        refine wS_set rfl rfl rfl (a_assign rfl rfl) ?_
        refine wO_nil ?_
        refine wC_seq ?_
        refine wC_seq ?_
        refine wC_reg ?_
        refine wS_set rfl rfl rfl (a_fieldAddrA rfl (hT rfl) rfl rfl (hT rfl) rfl) ?_
        refine wS_set rfl rfl rfl (a_loadK rfl rfl (hT rfl) rfl) ?_
        refine wO_nil ?_
        refine wC_block ?_
        refine wC_seq ?_
        refine wC_seq ?_
        refine wC_reg ?_
        refine wS_set rfl rfl rfl (i_eql (p := false) rfl rfl (decide_eq_false (by omega))) ?_
        refine wS_set rfl rfl rfl (a_assign rfl rfl) ?_
        refine wO_nil ?_
        refine wC_cond (p := false) rfl (fun hc => absurd hc (by decide)) (fun _ => ?_)
        refine wC_reg ?_
        refine wS_set rfl rfl rfl (i_eql (p := true) rfl rfl (decide_eq_true (by omega))) ?_
        refine wS_set rfl rfl rfl (a_assign rfl rfl) ?_
        refine wO_nil ?_
        refine wC_cond (p := true) rfl (fun _ => ?_) (fun hc => absurd hc (by decide))
        refine wC_seq ?_
        refine wC_reg ?_
        refine wS_set rfl rfl rfl (a_assign rfl rfl) ?_
        refine wO_nil ?_
        refine wC_ret ?_
        exact end_tmp rfl rfl
    · rw [if_neg h26]
      by_cases h4 : r.k = 4
      · rw [if_pos h4, show nulAll r.l = nulAll (r.l.drop 0) by rw [List.drop_zero]]
        refine wC_seq ?_
        refine wC_reg ?_
        refine wS_set rfl rfl rfl (a_boxRx (by assumption) rfl (hT rfl) rfl rfl rfl) ?_
        refine wS_set rfl rfl rfl (a_assign rfl rfl) ?_
        refine wO_nil ?_
        refine wC_seq ?_
        refine wC_seq ?_
        refine wC_reg ?_
        refine wS_set rfl rfl rfl (a_fieldAddrA rfl (hT rfl) rfl rfl (hT rfl) rfl) ?_
        refine wS_set rfl rfl rfl (a_loadK rfl rfl (hT rfl) rfl) ?_
        refine wO_nil ?_
        refine wC_block ?_
        refine wC_seq ?_
        refine wC_seq ?_
        refine wC_reg ?_
        refine wS_set rfl rfl rfl (i_eql (p := false) rfl rfl (decide_eq_false (by omega))) ?_
        refine wS_set rfl rfl rfl (a_assign rfl rfl) ?_
        refine wO_nil ?_
        refine wC_cond (p := false) rfl (fun hc => absurd hc (by decide)) (fun _ => ?_)
        refine wC_reg ?_
        refine wS_set rfl rfl rfl (i_eql (p := false) rfl rfl (decide_eq_false (by omega))) ?_
        refine wS_set rfl rfl rfl (a_assign rfl rfl) ?_
        refine wO_nil ?_
        refine wC_cond (p := false) rfl (fun hc => absurd hc (by decide)) (fun _ => ?_)
        refine wC_seq ?_
        refine wC_reg ?_
        refine wS_set rfl rfl rfl (i_eql (p := true) rfl rfl (decide_eq_true (by omega))) ?_
        refine wS_set rfl rfl rfl (a_assign rfl rfl) ?_
        refine wO_nil ?_
        refine wC_cond (p := true) rfl (fun _ => ?_) (fun hc => absurd hc (by decide))
        refine wC_seq ?_
        refine wC_seq ?_
        refine wC_reg ?_
        refine wS_set rfl rfl rfl (a_fieldAddrA rfl (hT rfl) rfl rfl (hT rfl) rfl) ?_
        refine wS_set rfl rfl rfl (a_loadKids (by assumption) rfl rfl (hT rfl) rfl) ?_
        refine wS_set rfl rfl rfl (a_lenK rfl rfl (hT rfl) rfl) ?_
        refine wS_set rfl rfl rfl (a_move rfl rfl) ?_
        refine wO_nil ?_
        refine wC_block ?_
        refine wC_loop (fun m ρ => ∃ i : Nat, i + m = r.l.length ∧ nulAll (r.l.drop 0) = nulAll (r.l.drop i) ∧
            PinSt 37 [(15, .v (.sl 6 (rxRows r.l))), (16, natX .i64 r.l.length), (17, natX .i64 i)] [] ρ) (fun m ρ hi => ?_) r.l.length
          ⟨0, by omega, rfl, pinned_mk rfl ⟨rfl, rfl, rfl, trivial⟩ trivial⟩
        obtain ⟨i, hm, hsh, hi⟩ := hi
        replace hi := hi.form
        obtain ⟨g, h, rfl⟩ := hi
        by_cases hlt : i < r.l.length
        · have hget : r.l[i]? = some (r.l[i]'hlt) := List.getElem?_eq_getElem hlt
          have hwk := hw.at hget
          cases hv : nul (r.l[i]'hlt) with
          | true =>
            refine wC_seq ?_
            refine wC_reg ?_
            refine wS_set rfl rfl rfl (b_lss (p := true) rfl rfl (decide_eq_true (by omega))) ?_
            refine wO_nil ?_
            refine wC_seq ?_
            refine wC_cond (p := true) rfl (fun _ => ?_) (fun hc => absurd hc (by decide))
            refine wC_skip ?_
            refine wC_seq ?_
            refine wC_block ?_
            refine wC_seq ?_
            refine wC_reg ?_
            refine wS_set rfl rfl rfl (n_kid hget rfl rfl (hT rfl) rfl (hT rfl) rfl) ?_
            refine wS_set rfl rfl rfl (a_loadRxR (by assumption) rfl (hT rfl) rfl rfl) ?_
            refine wS_set rfl rfl rfl (a_alloc (hT rfl) rfl rfl) ?_
            refine wS_eff rfl rfl (a_storeRx (by assumption) rfl rfl rfl (by first | rfl | exact rxB_len (by assumption)) (hT rfl) rfl rfl) ?_
            refine wO_nil ?_
            refine wC_seq ?_
            refine wC_reg ?_
            refine wS_set rfl rfl rfl (a_loadRx (by assumption) rfl rfl (hT rfl) rfl rfl) ?_
            refine wS_set rfl rfl rfl (a_call rfl rfl fn25 rfl rfl (hv ▸ ih _ (List.getElem_mem hlt) hwk)) ?_
            refine wS_set rfl rfl rfl (a_un rfl rfl) ?_
            refine wO_nil ?_
            refine wC_cond (p := false) rfl (fun hc => absurd hc (by decide)) (fun _ => ?_)
            refine wC_skip ?_
            refine wC_reg ?_
            refine wS_set rfl rfl rfl (n_add (b := 1) rfl rfl (by simp only [capN]; omega)) ?_
            refine wS_set rfl rfl rfl (a_move rfl rfl) ?_
            refine wO_nil ?_
            exact ⟨m - 1, by omega, i + 1, by omega, by rw [hsh, nulAll_drop hget, hv, Bool.true_and], pinned_mk rfl ⟨rfl, rfl, rfl, trivial⟩ trivial⟩
          | false =>
            rw [hsh, nulAll_drop hget, hv, Bool.false_and]
            refine wC_seq ?_
            refine wC_reg ?_
            refine wS_set rfl rfl rfl (b_lss (p := true) rfl rfl (decide_eq_true (by omega))) ?_
            refine wO_nil ?_
            refine wC_seq ?_
            refine wC_cond (p := true) rfl (fun _ => ?_) (fun hc => absurd hc (by decide))
            refine wC_skip ?_
            refine wC_seq ?_
            refine wC_block ?_
            refine wC_seq ?_
            refine wC_reg ?_
            refine wS_set rfl rfl rfl (n_kid hget rfl rfl (hT rfl) rfl (hT rfl) rfl) ?_
            refine wS_set rfl rfl rfl (a_loadRxR (by assumption) rfl (hT rfl) rfl rfl) ?_
            refine wS_set rfl rfl rfl (a_alloc (hT rfl) rfl rfl) ?_
            refine wS_eff rfl rfl (a_storeRx (by assumption) rfl rfl rfl (by first | rfl | exact rxB_len (by assumption)) (hT rfl) rfl rfl) ?_
            refine wO_nil ?_
            refine wC_seq ?_
            refine wC_reg ?_
            refine wS_set rfl rfl rfl (a_loadRx (by assumption) rfl rfl (hT rfl) rfl rfl) ?_
            refine wS_set rfl rfl rfl (a_call rfl rfl fn25 rfl rfl (hv ▸ ih _ (List.getElem_mem hlt) hwk)) ?_
            refine wS_set rfl rfl rfl (a_un rfl rfl) ?_
            refine wO_nil ?_
            refine wC_cond (p := true) rfl (fun _ => ?_) (fun hc => absurd hc (by decide))
            refine wC_seq ?_
            refine wC_reg ?_
            refine wS_set rfl rfl rfl (a_assign rfl rfl) ?_
            refine wO_nil ?_
            refine wC_ret ?_
            exact end_tmp rfl rfl
        · obtain rfl : i = r.l.length := by omega
          rw [hsh, List.drop_eq_nil_of_le (Nat.le_refl _), nulAll]
          refine wC_seq ?_
          refine wC_reg ?_
          refine wS_set rfl rfl rfl (b_lss (p := false) rfl rfl (decide_eq_false (by omega))) ?_
          refine wO_nil ?_
          refine wC_seq ?_
          refine wC_cond (p := false) rfl (fun hc => absurd hc (by decide)) (fun _ => ?_)
          refine wC_exit ?_
          refine wC_seq ?_
          refine wC_reg ?_
          refine wS_set rfl rfl rfl (a_assign rfl rfl) ?_
          refine wO_nil ?_
          refine wC_ret ?_
          exact end_tmp rfl rfl
      · rw [if_neg h4]
        by_cases h5 : r.k = 5
        · rw [if_pos h5, show nulAny r.l = nulAny (r.l.drop 0) by rw [List.drop_zero]]
          refine wC_seq ?_
          refine wC_reg ?_
          refine wS_set rfl rfl rfl (a_boxRx (by assumption) rfl (hT rfl) rfl rfl rfl) ?_
          refine wS_set rfl rfl rfl (a_assign rfl rfl) ?_
          refine wO_nil ?_
          refine wC_seq ?_
          refine wC_seq ?_
          refine wC_reg ?_
          refine wS_set rfl rfl rfl (a_fieldAddrA rfl (hT rfl) rfl rfl (hT rfl) rfl) ?_
          refine wS_set rfl rfl rfl (a_loadK rfl rfl (hT rfl) rfl) ?_
          refine wO_nil ?_
          refine wC_block ?_
          refine wC_seq ?_
          refine wC_seq ?_
          refine wC_reg ?_
          refine wS_set rfl rfl rfl (i_eql (p := false) rfl rfl (decide_eq_false (by omega))) ?_
          refine wS_set rfl rfl rfl (a_assign rfl rfl) ?_
          refine wO_nil ?_
          refine wC_cond (p := false) rfl (fun hc => absurd hc (by decide)) (fun _ => ?_)
          refine wC_reg ?_
          refine wS_set rfl rfl rfl (i_eql (p := false) rfl rfl (decide_eq_false (by omega))) ?_
          refine wS_set rfl rfl rfl (a_assign rfl rfl) ?_
          refine wO_nil ?_
          refine wC_cond (p := false) rfl (fun hc => absurd hc (by decide)) (fun _ => ?_)
          refine wC_seq ?_
          refine wC_reg ?_
          refine wS_set rfl rfl rfl (i_eql (p := false) rfl rfl (decide_eq_false (by omega))) ?_
          refine wS_set rfl rfl rfl (a_assign rfl rfl) ?_
          refine wO_nil ?_
          refine wC_cond (p := false) rfl (fun hc => absurd hc (by decide)) (fun _ => ?_)
          refine wC_seq ?_
          refine wC_reg ?_
          refine wS_set rfl rfl rfl (i_eql (p := true) rfl rfl (decide_eq_true (by omega))) ?_
          refine wS_set rfl rfl rfl (a_assign rfl rfl) ?_
          refine wO_nil ?_
          refine wC_cond (p := true) rfl (fun _ => ?_) (fun hc => absurd hc (by decide))
          refine wC_seq ?_
          refine wC_reg ?_
          refine wS_set rfl rfl rfl (a_fieldAddrA rfl (hT rfl) rfl rfl (hT rfl) rfl) ?_
          refine wS_set rfl rfl rfl (a_loadKids (by assumption) rfl rfl (hT rfl) rfl) ?_
          refine wS_set rfl rfl rfl (a_lenK rfl rfl (hT rfl) rfl) ?_
          refine wS_set rfl rfl rfl (a_move rfl rfl) ?_
          refine wO_nil ?_
          refine wC_block ?_
          refine wC_loop (fun m ρ => ∃ i : Nat, i + m = r.l.length ∧ nulAny (r.l.drop 0) = nulAny (r.l.drop i) ∧
              PinSt 37 [(28, .v (.sl 6 (rxRows r.l))), (29, natX .i64 r.l.length), (30, natX .i64 i)] [] ρ) (fun m ρ hi => ?_) r.l.length
            ⟨0, by omega, rfl, pinned_mk rfl ⟨rfl, rfl, rfl, trivial⟩ trivial⟩
          obtain ⟨i, hm, hsh, hi⟩ := hi
          replace hi := hi.form
          obtain ⟨g, h, rfl⟩ := hi
          by_cases hlt : i < r.l.length
          · have hget : r.l[i]? = some (r.l[i]'hlt) := List.getElem?_eq_getElem hlt
            have hwk := hw.at hget
            cases hv : nul (r.l[i]'hlt) with
            | false =>
              refine wC_seq ?_
              refine wC_reg ?_
              refine wS_set rfl rfl rfl (b_lss (p := true) rfl rfl (decide_eq_true (by omega))) ?_
              refine wO_nil ?_
              refine wC_seq ?_
              refine wC_cond (p := true) rfl (fun _ => ?_) (fun hc => absurd hc (by decide))
              refine wC_skip ?_
              refine wC_seq ?_
              refine wC_block ?_
              refine wC_seq ?_
              refine wC_reg ?_
              refine wS_set rfl rfl rfl (n_kid hget rfl rfl (hT rfl) rfl (hT rfl) rfl) ?_
              refine wS_set rfl rfl rfl (a_loadRxR (by assumption) rfl (hT rfl) rfl rfl) ?_
              refine wS_set rfl rfl rfl (a_alloc (hT rfl) rfl rfl) ?_
              refine wS_eff rfl rfl (a_storeRx (by assumption) rfl rfl rfl (by first | rfl | exact rxB_len (by assumption)) (hT rfl) rfl rfl) ?_
              refine wO_nil ?_
              refine wC_seq ?_
              refine wC_reg ?_
              refine wS_set rfl rfl rfl (a_loadRx (by assumption) rfl rfl (hT rfl) rfl rfl) ?_
              refine wS_set rfl rfl rfl (a_call rfl rfl fn25 rfl rfl (hv ▸ ih _ (List.getElem_mem hlt) hwk)) ?_
              refine wO_nil ?_
              refine wC_cond (p := false) rfl (fun hc => absurd hc (by decide)) (fun _ => ?_)
              refine wC_skip ?_
              refine wC_reg ?_
              refine wS_set rfl rfl rfl (n_add (b := 1) rfl rfl (by simp only [capN]; omega)) ?_
              refine wS_set rfl rfl rfl (a_move rfl rfl) ?_
              refine wO_nil ?_
              exact ⟨m - 1, by omega, i + 1, by omega, by rw [hsh, nulAny_drop hget, hv, Bool.false_or], pinned_mk rfl ⟨rfl, rfl, rfl, trivial⟩ trivial⟩
            | true =>
              rw [hsh, nulAny_drop hget, hv, Bool.true_or]
              refine wC_seq ?_
              refine wC_reg ?_
              refine wS_set rfl rfl rfl (b_lss (p := true) rfl rfl (decide_eq_true (by omega))) ?_
              refine wO_nil ?_
              refine wC_seq ?_
              refine wC_cond (p := true) rfl (fun _ => ?_) (fun hc => absurd hc (by decide))
              refine wC_skip ?_
              refine wC_seq ?_
              refine wC_block ?_
              refine wC_seq ?_
              refine wC_reg ?_
              refine wS_set rfl rfl rfl (n_kid hget rfl rfl (hT rfl) rfl (hT rfl) rfl) ?_
              refine wS_set rfl rfl rfl (a_loadRxR (by assumption) rfl (hT rfl) rfl rfl) ?_
              refine wS_set rfl rfl rfl (a_alloc (hT rfl) rfl rfl) ?_
              refine wS_eff rfl rfl (a_storeRx (by assumption) rfl rfl rfl (by first | rfl | exact rxB_len (by assumption)) (hT rfl) rfl rfl) ?_
              refine wO_nil ?_
              refine wC_seq ?_
              refine wC_reg ?_
              refine wS_set rfl rfl rfl (a_loadRx (by assumption) rfl rfl (hT rfl) rfl rfl) ?_
              refine wS_set rfl rfl rfl (a_call rfl rfl fn25 rfl rfl (hv ▸ ih _ (List.getElem_mem hlt) hwk)) ?_
              refine wO_nil ?_
              refine wC_cond (p := true) rfl (fun _ => ?_) (fun hc => absurd hc (by decide))
              refine wC_seq ?_
              refine wC_reg ?_
              refine wS_set rfl rfl rfl (a_assign rfl rfl) ?_
              refine wO_nil ?_
              refine wC_ret ?_
              exact end_tmp rfl rfl
          · obtain rfl : i = r.l.length := by omega
            rw [hsh, List.drop_eq_nil_of_le (Nat.le_refl _), nulAny]
            refine wC_seq ?_
            refine wC_reg ?_
            refine wS_set rfl rfl rfl (b_lss (p := false) rfl rfl (decide_eq_false (by omega))) ?_
            refine wO_nil ?_
            refine wC_seq ?_
            refine wC_cond (p := false) rfl (fun hc => absurd hc (by decide)) (fun _ => ?_)
            refine wC_exit ?_
            refine wC_seq ?_
            refine wC_reg ?_
            refine wS_set rfl rfl rfl (a_assign rfl rfl) ?_
            refine wO_nil ?_
            refine wC_ret ?_
            exact end_tmp rfl rfl
        · rw [if_neg h5]
          refine wC_seq ?_
          refine wC_reg ?_
          refine wS_set rfl rfl rfl (a_boxRx (by assumption) rfl (hT rfl) rfl rfl rfl) ?_
          refine wS_set rfl rfl rfl (a_assign rfl rfl) ?_
          refine wO_nil ?_
          refine wC_seq ?_
          refine wC_seq ?_
          refine wC_reg ?_
          refine wS_set rfl rfl rfl (a_fieldAddrA rfl (hT rfl) rfl rfl (hT rfl) rfl) ?_
          refine wS_set rfl rfl rfl (a_loadK rfl rfl (hT rfl) rfl) ?_
          refine wO_nil ?_
          refine wC_block ?_
          refine wC_seq ?_
          refine wC_seq ?_
          refine wC_reg ?_
          refine wS_set rfl rfl rfl (i_eql (p := false) rfl rfl (decide_eq_false (by omega))) ?_
          refine wS_set rfl rfl rfl (a_assign rfl rfl) ?_
          refine wO_nil ?_
          refine wC_cond (p := false) rfl (fun hc => absurd hc (by decide)) (fun _ => ?_)
          refine wC_reg ?_
          refine wS_set rfl rfl rfl (i_eql (p := false) rfl rfl (decide_eq_false (by omega))) ?_
          refine wS_set rfl rfl rfl (a_assign rfl rfl) ?_
          refine wO_nil ?_
          refine wC_cond (p := false) rfl (fun hc => absurd hc (by decide)) (fun _ => ?_)
          refine wC_seq ?_
          refine wC_reg ?_
          refine wS_set rfl rfl rfl (i_eql (p := false) rfl rfl (decide_eq_false (by omega))) ?_
          refine wS_set rfl rfl rfl (a_assign rfl rfl) ?_
          refine wO_nil ?_
          refine wC_cond (p := false) rfl (fun hc => absurd hc (by decide)) (fun _ => ?_)
          refine wC_seq ?_
          refine wC_reg ?_
          refine wS_set rfl rfl rfl (i_eql (p := false) rfl rfl (decide_eq_false (by omega))) ?_
          refine wS_set rfl rfl rfl (a_assign rfl rfl) ?_
          refine wO_nil ?_
          refine wC_cond (p := false) rfl (fun hc => absurd hc (by decide)) (fun _ => ?_)
          refine wC_skip ?_
          refine wC_seq ?_
          refine wC_reg ?_
          refine wS_set rfl rfl rfl (a_assign rfl rfl) ?_
          refine wO_nil ?_
          refine wC_ret ?_
          exact end_tmp rfl rfl
set_option maxRecDepth 100000 in
set_option maxHeartbeats 4000000 in
theorem ev45 {B : Nat} (hB : B ≤ 2147483648) {l : List Rx} (hg : ∀ r ∈ l, r.good B) (hl : l.length ≤ B) : FnEv tab ext 45 [.lent 6 (rxRows l)] [] (.ret [rxV (concatR l)], []) := by
  refine fn_go _ no45 fn45 rfl rfl rfl ?_
  have e1 := rxRows_len l
  have hgood := concatR_good hg hl
  have hcat := catLoop_good (l := l) (acc := []) hg (fun r h => by simp at h)
  refine wC_seq ?_
  refine wC_reg ?_
  refine wS_set rfl rfl rfl (a_alloc (hT rfl) rfl rfl) ?_
  refine wO_nil ?_
  refine wC_seq ?_
  refine wC_reg ?_
  refine wS_set rfl rfl rfl (a_assignNil rfl (hT rfl) rfl (hT rfl)) ?_
  refine wO_nil ?_
  refine wC_seq ?_
  refine wC_seq ?_
  refine wC_reg ?_
  refine wS_set rfl rfl rfl (a_move rfl rfl) ?_
  refine wS_set rfl rfl rfl (a_lenL rfl rfl (hT rfl) rfl) ?_
  refine wS_set rfl rfl rfl (a_move rfl rfl) ?_
  refine wO_nil ?_
  refine wC_block ?_
  refine wC_loop (fun m ρ => ∃ (i : Nat) (acc : List Rx) (x : X), i + m = l.length ∧ acc.length ≤ i ∧ catLoop l [] = catLoop (l.drop i) acc ∧ RowX 6 22 ρ.ob x (rxRows acc) ∧
      PinSt 36 [(2, .addr 2 1 0), (3, x), (6, .lent 6 (rxRows l)), (7, natX .i64 l.length), (8, natX .i64 i)] [(2, .box 1 rxZ)] ρ) (fun m ρ hi => ?_) l.length
    ⟨0, [], .nil 6, by omega, Nat.le_refl _, by rw [List.drop_zero], .inl ⟨rfl, by rw [rxRows]⟩, pinned_mk rfl ⟨rfl, rfl, rfl, by rw [← e1]; rfl, rfl, trivial⟩ ⟨rfl, trivial⟩⟩
  obtain ⟨i, acc, x, hm, hacc, hsh, hrow, hi⟩ := hi
  replace hi := hi.form
  obtain ⟨g, h, rfl⟩ := hi
  simp only at hrow
  by_cases hlt : i < l.length
  · have hget : l[i]? = some (l[i]'hlt) := List.getElem?_eq_getElem hlt
    have hwk := (hg _ (List.getElem_mem hlt)).wf
    rw [catLoop_drop hget] at hsh
    by_cases h1 : (l[i]'hlt).k = 1
    · rw [if_pos h1] at hsh
      rw [show concatR l = l[i]'hlt by unfold concatR; rw [hsh]]
      refine wC_seq ?_
      refine wC_reg ?_
      refine wS_set rfl rfl rfl (b_lss (p := true) rfl rfl (decide_eq_true (by omega))) ?_
      refine wO_nil ?_
      refine wC_seq ?_
      refine wC_cond (p := true) rfl (fun _ => ?_) (fun hc => absurd hc (by decide))
      refine wC_skip ?_
      refine wC_seq ?_
      refine wC_block ?_
      refine wC_seq ?_
      refine wC_reg ?_
      refine wS_set rfl rfl rfl (n_indexAddrL (a := i) rfl rfl (hT rfl) rfl (hT rfl) rfl (rxRows_get hget)) ?_
      refine wS_set rfl rfl rfl (a_loadRxR (by assumption) rfl (hT rfl) rfl rfl) ?_
      refine wS_set rfl rfl rfl (a_alloc (hT rfl) rfl rfl) ?_
      refine wS_eff rfl rfl (a_storeRx (by assumption) rfl rfl rfl (by first | rfl | exact rxB_len (by assumption)) (hT rfl) rfl rfl) ?_
      refine wO_nil ?_
      refine wC_seq ?_
      refine wC_seq ?_
      refine wC_reg ?_
      refine wS_set rfl rfl rfl (a_fieldAddrA rfl (hT rfl) rfl rfl (hT rfl) rfl) ?_
      refine wS_set rfl rfl rfl (a_loadK rfl rfl (hT rfl) rfl) ?_
      refine wS_set rfl rfl rfl (i_eql (p := true) rfl rfl (decide_eq_true (by omega))) ?_
      refine wO_nil ?_
      refine wC_cond (p := true) rfl (fun _ => ?_) (fun hc => absurd hc (by decide))
      refine wC_seq ?_
      refine wC_reg ?_
      refine wS_set rfl rfl rfl (a_loadRx (by assumption) rfl rfl (hT rfl) rfl rfl) ?_
      refine wS_eff rfl rfl (a_storeRx (by assumption) rfl rfl rfl (by first | rfl | exact rxB_len (by assumption)) (hT rfl) rfl rfl) ?_
      refine wO_nil ?_
      refine wC_ret ?_
      exact end_rx hwk rfl rfl rfl (hT rfl) rfl rfl
    · rw [if_neg h1] at hsh
      by_cases h2 : (l[i]'hlt).k = 2
      · rw [if_neg (by simpa using h2)] at hsh
        refine wC_seq ?_
        refine wC_reg ?_
        refine wS_set rfl rfl rfl (b_lss (p := true) rfl rfl (decide_eq_true (by omega))) ?_
        refine wO_nil ?_
        refine wC_seq ?_
        refine wC_cond (p := true) rfl (fun _ => ?_) (fun hc => absurd hc (by decide))
        refine wC_skip ?_
        refine wC_seq ?_
        refine wC_block ?_
        refine wC_seq ?_
        refine wC_reg ?_
        refine wS_set rfl rfl rfl (n_indexAddrL (a := i) rfl rfl (hT rfl) rfl (hT rfl) rfl (rxRows_get hget)) ?_
        refine wS_set rfl rfl rfl (a_loadRxR (by assumption) rfl (hT rfl) rfl rfl) ?_
        refine wS_set rfl rfl rfl (a_alloc (hT rfl) rfl rfl) ?_
        refine wS_eff rfl rfl (a_storeRx (by assumption) rfl rfl rfl (by first | rfl | exact rxB_len (by assumption)) (hT rfl) rfl rfl) ?_
        refine wO_nil ?_
        refine wC_seq ?_
        refine wC_seq ?_
        refine wC_reg ?_
        refine wS_set rfl rfl rfl (a_fieldAddrA rfl (hT rfl) rfl rfl (hT rfl) rfl) ?_
        refine wS_set rfl rfl rfl (a_loadK rfl rfl (hT rfl) rfl) ?_
        refine wS_set rfl rfl rfl (i_eql (p := false) rfl rfl (decide_eq_false (by omega))) ?_
        refine wO_nil ?_
        refine wC_cond (p := false) rfl (fun hc => absurd hc (by decide)) (fun _ => ?_)
        refine wC_skip ?_
        refine wC_seq ?_
        refine wC_reg ?_
        refine wS_set rfl rfl rfl (a_fieldAddrA rfl (hT rfl) rfl rfl (hT rfl) rfl) ?_
        refine wS_set rfl rfl rfl (a_loadK rfl rfl (hT rfl) rfl) ?_
        refine wS_set rfl rfl rfl (i_neq (p := false) rfl rfl (decide_eq_false (by omega))) ?_
        refine wO_nil ?_
        refine wC_cond (p := false) rfl (fun hc => absurd hc (by decide)) (fun _ => ?_)
        refine wC_skip ?_
        refine wC_reg ?_
        refine wS_set rfl rfl rfl (n_add (b := 1) rfl rfl (by simp only [capN]; omega)) ?_
        refine wS_set rfl rfl rfl (a_move rfl rfl) ?_
        refine wO_nil ?_
        exact ⟨m - 1, by omega, i + 1, acc, x, by omega, by omega, hsh, hrow.keep rfl, pinned_mk rfl ⟨rfl, rfl, rfl, rfl, rfl, trivial⟩ ⟨rfl, trivial⟩⟩
      · rw [if_pos h2] at hsh
        refine wC_seq ?_
        refine wC_reg ?_
        refine wS_set rfl rfl rfl (b_lss (p := true) rfl rfl (decide_eq_true (by omega))) ?_
        refine wO_nil ?_
        refine wC_seq ?_
        refine wC_cond (p := true) rfl (fun _ => ?_) (fun hc => absurd hc (by decide))
        refine wC_skip ?_
        refine wC_seq ?_
        refine wC_block ?_
        refine wC_seq ?_
        refine wC_reg ?_
        refine wS_set rfl rfl rfl (n_indexAddrL (a := i) rfl rfl (hT rfl) rfl (hT rfl) rfl (rxRows_get hget)) ?_
        refine wS_set rfl rfl rfl (a_loadRxR (by assumption) rfl (hT rfl) rfl rfl) ?_
        refine wS_set rfl rfl rfl (a_alloc (hT rfl) rfl rfl) ?_
        refine wS_eff rfl rfl (a_storeRx (by assumption) rfl rfl rfl (by first | rfl | exact rxB_len (by assumption)) (hT rfl) rfl rfl) ?_
        refine wO_nil ?_
        refine wC_seq ?_
        refine wC_seq ?_
        refine wC_reg ?_
        refine wS_set rfl rfl rfl (a_fieldAddrA rfl (hT rfl) rfl rfl (hT rfl) rfl) ?_
        refine wS_set rfl rfl rfl (a_loadK rfl rfl (hT rfl) rfl) ?_
        refine wS_set rfl rfl rfl (i_eql (p := false) rfl rfl (decide_eq_false (by omega))) ?_
        refine wO_nil ?_
        refine wC_cond (p := false) rfl (fun hc => absurd hc (by decide)) (fun _ => ?_)
        refine wC_skip ?_
        refine wC_seq ?_
        refine wC_reg ?_
        refine wS_set rfl rfl rfl (a_fieldAddrA rfl (hT rfl) rfl rfl (hT rfl) rfl) ?_
        refine wS_set rfl rfl rfl (a_loadK rfl rfl (hT rfl) rfl) ?_
        refine wS_set rfl rfl rfl (i_neq (p := true) rfl rfl (decide_eq_true (by omega))) ?_
        refine wO_nil ?_
        refine wC_cond (p := true) rfl (fun _ => ?_) (fun hc => absurd hc (by decide))
        refine wC_reg ?_
        refine wS_set rfl rfl rfl (a_moveS (hrow.sl.keep rfl) (hT rfl) rfl (hT rfl) rfl) ?_
        refine wS_set rfl rfl rfl (a_loadRx (by assumption) rfl rfl (hT rfl) rfl rfl) ?_
        refine wS_set rfl rfl rfl (a_bs1Rx (by assumption) rfl (hT rfl) rfl (hT rfl) rfl rfl rfl rfl rfl) ?_
        refine wS_appS (es := rxRows acc) (es2 := rxRows [l[i]'hlt]) (hrow.keep rfl) rfl rfl (by rw [List.drop_zero, List.take_of_length_le (by rw [rxRows_len]; exact Nat.le_refl _)]) rfl (hT rfl) rfl (hT rfl) rfl rfl rfl (by rw [rxRows_len, rxRows_len]; simp only [big, List.length_singleton]; omega) rfl (by rw [rxRows_one]; simp) rfl rfl (fun g22 rd22 => ?_)
        refine wS_set rfl rfl rfl (a_assign rfl rfl) ?_
        refine wO_nil ?_
        refine wC_reg ?_
        refine wS_set rfl rfl rfl (n_add (b := 1) rfl rfl (by simp only [capN]; omega)) ?_
        refine wS_set rfl rfl rfl (a_move rfl rfl) ?_
        refine wO_nil ?_
        exact ⟨m - 1, by omega, i + 1, acc ++ [l[i]'hlt], .own 22 g22 0 (rxRows acc ++ rxRows [l[i]'hlt]).length, by omega, by simp; omega, hsh, by rw [rxRows_app]; exact .inr ⟨by rw [rxRows_one]; simp, g22, rfl, rfl⟩, pinned_mk rfl ⟨rfl, rfl, rfl, rfl, rfl, trivial⟩ ⟨rfl, trivial⟩⟩
  · obtain rfl : i = l.length := by omega
    rw [List.drop_eq_nil_of_le (Nat.le_refl _), catLoop] at hsh
    rw [hsh] at hcat
    have hend : concatR l = catEnd acc := by unfold concatR; rw [hsh]
    rw [hend] at hgood ⊢
    cases acc with
    | nil =>
      refine wC_seq ?_
      refine wC_reg ?_
      refine wS_set rfl rfl rfl (b_lss (p := false) rfl rfl (decide_eq_false (by omega))) ?_
      refine wO_nil ?_
      refine wC_seq ?_
      refine wC_cond (p := false) rfl (fun hc => absurd hc (by decide)) (fun _ => ?_)
      refine wC_exit ?_
      refine wC_seq ?_
      refine wC_seq ?_
      refine wC_reg ?_
      refine wS_set rfl rfl rfl (a_moveS (hrow.sl.keep rfl) (hT rfl) rfl (hT rfl) rfl) ?_
      refine wS_set rfl rfl rfl (a_lenS (hrow.sl.keep rfl) rfl (hT rfl) rfl) ?_
      refine wO_nil ?_
      refine wC_block ?_
      refine wC_seq ?_
      refine wC_reg ?_
      refine wS_set rfl rfl rfl (n_eql (b := 0) rfl rfl ) ?_
      refine wS_set rfl rfl rfl (a_assign rfl rfl) ?_
      refine wO_nil ?_
      refine wC_cond (p := true) rfl (fun _ => ?_) (fun hc => absurd hc (by decide))
      refine wC_seq ?_
      refine wC_reg ?_
      refine wS_set rfl rfl rfl (a_build (ys := [.lit (.int .i64 2)]) rfl (hT rfl) rfl rfl rfl rfl) ?_
      refine wS_eff rfl rfl (a_storeRx (r := emptyR) (B := B) emptyR_good.wf rfl rfl rfl rfl (hT rfl) rfl rfl) ?_
      refine wO_nil ?_
      refine wC_ret ?_
      exact end_rx (B := B) emptyR_good.wf rfl rfl rfl (hT rfl) rfl rfl
    | cons a acc =>
      cases acc with
      | nil =>
        have hwa := (hcat.1 a (by simp)).wf
        have hlen1 : (rxRows [a]).length = 1 := by rw [rxRows_len]; rfl
        refine wC_seq ?_
        refine wC_reg ?_
        refine wS_set rfl rfl rfl (b_lss (p := false) rfl rfl (decide_eq_false (by omega))) ?_
        refine wO_nil ?_
        refine wC_seq ?_
        refine wC_cond (p := false) rfl (fun hc => absurd hc (by decide)) (fun _ => ?_)
        refine wC_exit ?_
        refine wC_seq ?_
        refine wC_seq ?_
        refine wC_reg ?_
        refine wS_set rfl rfl rfl (a_moveS (hrow.sl.keep rfl) (hT rfl) rfl (hT rfl) rfl) ?_
        refine wS_set rfl rfl rfl (a_lenS (hrow.sl.keep rfl) rfl (hT rfl) rfl) ?_
        refine wO_nil ?_
        refine wC_block ?_
        refine wC_seq ?_
        refine wC_reg ?_
        refine wS_set rfl rfl rfl (b_eql (p := false) (b := 0) rfl rfl (decide_eq_false (by omega))) ?_
        refine wS_set rfl rfl rfl (a_assign rfl rfl) ?_
        refine wO_nil ?_
        refine wC_cond (p := false) rfl (fun hc => absurd hc (by decide)) (fun _ => ?_)
        refine wC_seq ?_
        refine wC_reg ?_
        refine wS_set rfl rfl rfl (b_eql (p := true) (b := 1) rfl rfl (decide_eq_true (by omega))) ?_
        refine wS_set rfl rfl rfl (a_assign rfl rfl) ?_
        refine wO_nil ?_
        refine wC_cond (p := true) rfl (fun _ => ?_) (fun hc => absurd hc (by decide))
        refine wC_seq ?_
        refine wC_reg ?_
        refine wS_set rfl rfl rfl (a_moveS (hrow.sl.keep rfl) (hT rfl) rfl (hT rfl) rfl) ?_
        refine wS_idxS (a := 0) (z := 6) (s0 := 22) (k := .i64) (es := rxRows [a]) (c := rxC a) (by exact hrow.sl.keep rfl) rfl (rxRows_get (l := [a]) (i := 0) (r := a) rfl) (hT rfl) rfl (hT rfl) rfl rfl rfl (fun w32 rd32 he32 => ?_)
        refine wS_loadS2 he32 (hT rfl) rfl (rxC_len hwa) rfl rfl (fun rd33 => ?_)
        refine wS_eff rfl rfl (a_storeRx (by assumption) rfl rfl rfl (by first | rfl | exact rxB_len (by assumption)) (hT rfl) rfl rfl) ?_
        refine wO_nil ?_
        refine wC_ret ?_
        exact end_rx hwa rfl rfl rfl (hT rfl) rfl rfl
      | cons b acc =>
        obtain ⟨ob', hk, hob⟩ := hrow.kept
        have hlen2 : (rxRows (a :: b :: acc)).length = acc.length + 2 := by rw [rxRows_len]; simp
        refine wC_seq ?_
        refine wC_reg ?_
        refine wS_set rfl rfl rfl (b_lss (p := false) rfl rfl (decide_eq_false (by omega))) ?_
        refine wO_nil ?_
        refine wC_seq ?_
        refine wC_cond (p := false) rfl (fun hc => absurd hc (by decide)) (fun _ => ?_)
        refine wC_exit ?_
        refine wC_seq ?_
        refine wC_seq ?_
        refine wC_reg ?_
        refine wS_set rfl rfl rfl (a_moveS (hrow.sl.keep rfl) (hT rfl) rfl (hT rfl) rfl) ?_
        refine wS_set rfl rfl rfl (a_lenS (hrow.sl.keep rfl) rfl (hT rfl) rfl) ?_
        refine wO_nil ?_
        refine wC_block ?_
        refine wC_seq ?_
        refine wC_reg ?_
        refine wS_set rfl rfl rfl (b_eql (p := false) (b := 0) rfl rfl (decide_eq_false (by omega))) ?_
        refine wS_set rfl rfl rfl (a_assign rfl rfl) ?_
        refine wO_nil ?_
        refine wC_cond (p := false) rfl (fun hc => absurd hc (by decide)) (fun _ => ?_)
        refine wC_seq ?_
        refine wC_reg ?_
        refine wS_set rfl rfl rfl (b_eql (p := false) (b := 1) rfl rfl (decide_eq_false (by omega))) ?_
        refine wS_set rfl rfl rfl (a_assign rfl rfl) ?_
        refine wO_nil ?_
        refine wC_cond (p := false) rfl (fun hc => absurd hc (by decide)) (fun _ => ?_)
        refine wC_skip ?_
        refine wC_seq ?_
        refine wC_reg ?_
        refine wS_set rfl rfl rfl (a_moveS (hrow.sl.keep rfl) (hT rfl) rfl (hT rfl) rfl) ?_
        refine wS_build (ys := [.lit (.int .i64 4), .sl 6 (rxRows (a :: b :: acc))]) (.cons .v (.cons hk .nil)) (hT rfl) rfl rfl rfl rfl rfl rfl (fun rd35 wr35 => ?_)
        refine wS_eff rfl rfl (a_storeRx (r := .mk 4 zeroW (a :: b :: acc)) hgood.wf rfl rfl ((hob 2 (by decide)).trans rfl) rfl (hT rfl) rfl rfl) ?_
        refine wO_nil ?_
        refine wC_ret ?_
        exact end_rx hgood.wf rfl rfl rfl (hT rfl) rfl rfl

end Go.Proofs.YtjppkpjlbbkdnaaDoor

namespace Go.Proofs.YtjppkpjlbbkdnaaDoor
open Go Go.Dv

set_option maxRecDepth 100000 in
set_option maxHeartbeats 8000000 in
theorem ev46L {B : Nat} (hB : B ≤ 2147483648) {l : List Rx} (hg : ∀ r ∈ l, r.good B) (hl : l.length ≤ B) (hK : (uniK [] l).length ≤ B) : FnEv tab ext 46 [.lent 6 (rxRows l)] [] (.ret [rxV (unionR l)], []) := by
  refine fn_go _ no46 fn46 rfl rfl rfl ?_
  have e1 := rxRows_len l
  have hgood := unionR_good hg hK
  have hks := uniK_good (l := l) (kids := []) hg (fun r h => by simp at h)
  refine wC_seq ?_
  refine wC_reg ?_
  refine wS_set rfl rfl rfl (a_alloc (hT rfl) rfl rfl) ?_
  refine wO_nil ?_
  refine wC_seq ?_
  refine wC_reg ?_
  refine wS_set rfl rfl rfl (a_assignNil rfl (hT rfl) rfl (hT rfl)) ?_
  refine wO_nil ?_
  refine wC_seq ?_
  refine wC_seq ?_
  refine wC_reg ?_
  refine wS_set rfl rfl rfl (a_move rfl rfl) ?_
  refine wS_set rfl rfl rfl (a_lenL rfl rfl (hT rfl) rfl) ?_
  refine wS_set rfl rfl rfl (a_move rfl rfl) ?_
  refine wO_nil ?_
  refine wC_block ?_
  refine wC_loop (fun m ρ => ∃ (i : Nat) (acc : List Rx) (x : X), i + m = l.length ∧ (∀ r ∈ acc, r.good B) ∧ uniK [] l = uniK acc (l.drop i) ∧ RowX 6 46 ρ.ob x (rxRows acc) ∧
      PinSt 61 [(2, .addr 2 1 0), (3, x), (11, .lent 6 (rxRows l)), (12, natX .i64 l.length), (13, natX .i64 i)] [(2, .box 1 rxZ)] ρ) (fun m ρ hi => ?_) l.length
    ⟨0, [], .nil 6, by omega, (fun r h => by simp at h), by rw [List.drop_zero], .inl ⟨rfl, by rw [rxRows]⟩, pinned_mk rfl ⟨rfl, rfl, rfl, by rw [← e1]; rfl, rfl, trivial⟩ ⟨rfl, trivial⟩⟩
  obtain ⟨i, acc, x, hm, hacc, hsh, hrow, hi⟩ := hi
  replace hi := hi.form
  obtain ⟨g, h, rfl⟩ := hi
  simp only at hrow
  by_cases hlt : i < l.length
  · have hget : l[i]? = some (l[i]'hlt) := List.getElem?_eq_getElem hlt
    have hgr := hg _ (List.getElem_mem hlt)
    have hwk := hgr.wf
    rw [uniK_drop hget] at hsh
    generalize hr : l[i]'hlt = r at hget hgr hwk hsh
    have hlen1 : (rxRows [r]).length = 1 := by rw [rxRows_len]; rfl
    refine wC_seq ?_
    refine wC_reg ?_
    refine wS_set rfl rfl rfl (b_lss (p := true) rfl rfl (decide_eq_true (by omega))) ?_
    refine wO_nil ?_
    refine wC_seq ?_
    refine wC_cond (p := true) rfl (fun _ => ?_) (fun hc => absurd hc (by decide))
    refine wC_skip ?_
    refine wC_seq ?_
    refine wC_block ?_
    refine wC_seq ?_
    refine wC_reg ?_
    refine wS_set rfl rfl rfl (n_indexAddrL (a := i) rfl rfl (hT rfl) rfl (hT rfl) rfl (rxRows_get hget)) ?_
    refine wS_set rfl rfl rfl (a_loadRxR (by assumption) rfl (hT rfl) rfl rfl) ?_
    refine wS_set rfl rfl rfl (a_alloc (hT rfl) rfl rfl) ?_
    refine wS_eff rfl rfl (a_storeRx (by assumption) rfl rfl rfl (by first | rfl | exact rxB_len (by assumption)) (hT rfl) rfl rfl) ?_
    refine wO_nil ?_
    refine wC_scope ?_
    refine wC_seq ?_
    refine wC_reg ?_
    refine wS_set rfl rfl rfl (a_loadRx (by assumption) rfl rfl (hT rfl) rfl rfl) ?_
    refine wS_set rfl rfl rfl (a_bs1Rx (by assumption) rfl (hT rfl) rfl (hT rfl) rfl rfl rfl rfl rfl) ?_
    refine wS_set rfl rfl rfl (a_assign rfl rfl) ?_
    refine wO_nil ?_
    refine wC_cut (fun ρ => ∃ x6, SlX 6 18 ρ.ob x6 (rxRows (mem r)) ∧ RowX 6 46 ρ.ob x (rxRows acc) ∧ PinSt 61 [(2, .addr 2 1 0), (3, x), (6, x6), (11, .lent 6 (rxRows l)), (12, natX .i64 l.length), (13, natX .i64 i)] [(2, .box 1 rxZ)] ρ) ?_ (fun ρ hi => ?_)
    · by_cases h5 : r.k = 5
      · rw [show mem r = r.l by unfold mem; rw [if_pos h5]]
        refine wC_seq ?_
        refine wC_reg ?_
        refine wS_set rfl rfl rfl (a_fieldAddrA rfl (hT rfl) rfl rfl (hT rfl) rfl) ?_
        refine wS_set rfl rfl rfl (a_loadK rfl rfl (hT rfl) rfl) ?_
        refine wS_set rfl rfl rfl (i_eql (p := true) rfl rfl (decide_eq_true (by omega))) ?_
        refine wO_nil ?_
        refine wC_cond (p := true) rfl (fun _ => ?_) (fun hc => absurd hc (by decide))
        refine wC_reg ?_
        refine wS_set rfl rfl rfl (a_fieldAddrA rfl (hT rfl) rfl rfl (hT rfl) rfl) ?_
        refine wS_set rfl rfl rfl (a_loadKids (by assumption) rfl rfl (hT rfl) rfl) ?_
        refine wS_set rfl rfl rfl (a_assign rfl rfl) ?_
        refine wO_nil ?_
        exact ⟨rfl, _, .inl rfl, hrow.keep rfl, pinned_mk rfl ⟨rfl, rfl, rfl, rfl, rfl, rfl, trivial⟩ ⟨rfl, trivial⟩⟩
      · rw [show mem r = [r] by unfold mem; rw [if_neg h5]]
        refine wC_seq ?_
        refine wC_reg ?_
        refine wS_set rfl rfl rfl (a_fieldAddrA rfl (hT rfl) rfl rfl (hT rfl) rfl) ?_
        refine wS_set rfl rfl rfl (a_loadK rfl rfl (hT rfl) rfl) ?_
        refine wS_set rfl rfl rfl (i_eql (p := false) rfl rfl (decide_eq_false (by omega))) ?_
        refine wO_nil ?_
        refine wC_cond (p := false) rfl (fun hc => absurd hc (by decide)) (fun _ => ?_)
        refine wC_skip ?_
        exact ⟨rfl, _, .inr (.inr (.inr ⟨_, by rw [hlen1]; rfl, rfl⟩)), hrow.keep rfl, pinned_mk rfl ⟨rfl, rfl, rfl, rfl, rfl, rfl, trivial⟩ ⟨rfl, trivial⟩⟩
    · obtain ⟨x6, hs6, hrow2, hi⟩ := hi
      replace hi := hi.form
      clear h hrow
      obtain ⟨g, h, rfl⟩ := hi
      simp only at hs6 hrow2
      have hmg := mem_good hgr
      have e6 := rxRows_len (mem r)
      refine wC_seq ?_
      refine wC_label ?_
      refine wC_seq ?_
      refine wC_reg ?_
      refine wS_set rfl rfl rfl (a_moveS (hs6.keep rfl) (hT rfl) rfl (hT rfl) rfl) ?_
      refine wS_set rfl rfl rfl (a_lenS (hs6.keep rfl) rfl (hT rfl) rfl) ?_
      refine wS_set rfl rfl rfl (a_move rfl rfl) ?_
      refine wO_nil ?_
      refine wC_block ?_
      rw [e6]
      refine wC_loop (fun m2 ρ => ∃ (j : Nat) (acc2 : List Rx) (x2 : X), j + m2 = (mem r).length ∧ (∀ r ∈ acc2, r.good B) ∧ uniK [] l = uniK (uniAll acc2 ((mem r).drop j)) (l.drop (i + 1)) ∧ RowX 6 46 ρ.ob x2 (rxRows acc2) ∧ SlX 6 18 ρ.ob x6 (rxRows (mem r)) ∧
          PinSt 61 [(2, .addr 2 1 0), (3, x2), (11, .lent 6 (rxRows l)), (12, natX .i64 l.length), (13, natX .i64 i), (24, x6), (25, natX .i64 (mem r).length), (26, natX .i64 j)] [(2, .box 1 rxZ)] ρ) (fun m2 ρ hi => ?_) (mem r).length
        ⟨0, acc, x, by omega, hacc, by rw [List.drop_zero]; exact hsh, hrow2.keep rfl, hs6.keep rfl, pinned_mk rfl ⟨rfl, rfl, rfl, rfl, rfl, rfl, rfl, rfl, trivial⟩ ⟨rfl, trivial⟩⟩
      obtain ⟨j, acc2, x2, hj, hacc2, hsh2, hrow3, hs7, hi⟩ := hi
      replace hi := hi.form
      clear h hrow2 hs6 hsh
      obtain ⟨g, h, rfl⟩ := hi
      simp only at hrow3 hs7
      by_cases hjt : j < (mem r).length
      · have hgk : (mem r)[j]? = some ((mem r)[j]'hjt) := List.getElem?_eq_getElem hjt
        have hk0 := hmg _ (List.getElem_mem hjt)
        have hwk2 := hk0.wf
        rw [uniAll_drop hgk] at hsh2
        generalize hkk : (mem r)[j]'hjt = k at hgk hk0 hwk2 hsh2
        have hmr : (mem r).length ≤ B := by
          unfold mem; split
          · exact hgr.len
          · show 1 ≤ B; omega
        by_cases h1 : k.k = 1
        · rw [uniAdd_skip h1] at hsh2
          refine wC_seq ?_
          refine wC_reg ?_
          refine wS_set rfl rfl rfl (b_lss (p := true) rfl rfl (decide_eq_true (by omega))) ?_
          refine wO_nil ?_
          refine wC_seq ?_
          refine wC_cond (p := true) rfl (fun _ => ?_) (fun hc => absurd hc (by decide))
          refine wC_skip ?_
          refine wC_seq ?_
          refine wC_block ?_
          refine wC_seq ?_
          refine wC_reg ?_
          refine wS_idxS (hs7.keep rfl) rfl (rxRows_get hgk) (hT rfl) rfl (hT rfl) rfl rfl rfl (fun w28 rd28 he28 => ?_)
          refine wS_loadS2 (c := rxC k) he28 (hT rfl) rfl (rxC_len hwk2) rfl rfl (fun rd29 => ?_)
          refine wS_set rfl rfl rfl (a_alloc (hT rfl) rfl rfl) ?_
          refine wS_eff rfl rfl (a_storeRx (r := k) (by assumption) rfl rfl rfl rfl (hT rfl) rfl rfl) ?_
          refine wO_nil ?_
          refine wC_seq ?_
          refine wC_seq ?_
          refine wC_reg ?_
          refine wS_set rfl rfl rfl (a_fieldAddrA rfl (hT rfl) rfl rfl (hT rfl) rfl) ?_
          refine wS_set rfl rfl rfl (a_loadK rfl rfl (hT rfl) rfl) ?_
          refine wS_set rfl rfl rfl (i_eql (p := true) rfl rfl (decide_eq_true (by omega))) ?_
          refine wO_nil ?_
          refine wC_cond (p := true) rfl (fun _ => ?_) (fun hc => absurd hc (by decide))
          refine wC_exit ?_
          refine wC_reg ?_
          refine wS_set rfl rfl rfl (n_add (b := 1) rfl rfl (by simp only [capN]; omega)) ?_
          refine wS_set rfl rfl rfl (a_move rfl rfl) ?_
          refine wO_nil ?_
          exact ⟨m2 - 1, by omega, j + 1, acc2, x2, by omega, hacc2, hsh2, hrow3.keep rfl, hs7.keep rfl, pinned_mk rfl ⟨rfl, rfl, rfl, rfl, rfl, rfl, rfl, rfl, trivial⟩ ⟨rfl, trivial⟩⟩
        · have e3 := rxRows_len acc2
          have hal : acc2.length ≤ B := by
            have k1 := uniAdd_len acc2 k
            have k2 := uniAll_len ((mem r).drop (j + 1)) (uniAdd acc2 k)
            have k3 := uniK_len (l.drop (i + 1)) (uniAll (uniAdd acc2 k) ((mem r).drop (j + 1)))
            rw [← hsh2] at k3
            omega
          refine wC_seq ?_
          refine wC_reg ?_
          refine wS_set rfl rfl rfl (b_lss (p := true) rfl rfl (decide_eq_true (by omega))) ?_
          refine wO_nil ?_
          refine wC_seq ?_
          refine wC_cond (p := true) rfl (fun _ => ?_) (fun hc => absurd hc (by decide))
          refine wC_skip ?_
          refine wC_seq ?_
          refine wC_block ?_
          refine wC_seq ?_
          refine wC_reg ?_
          refine wS_idxS (hs7.keep rfl) rfl (rxRows_get hgk) (hT rfl) rfl (hT rfl) rfl rfl rfl (fun w28 rd28 he28 => ?_)
          refine wS_loadS2 (c := rxC k) he28 (hT rfl) rfl (rxC_len hwk2) rfl rfl (fun rd29 => ?_)
          refine wS_set rfl rfl rfl (a_alloc (hT rfl) rfl rfl) ?_
          refine wS_eff rfl rfl (a_storeRx (r := k) (by assumption) rfl rfl rfl rfl (hT rfl) rfl rfl) ?_
          refine wO_nil ?_
          refine wC_seq ?_
          refine wC_seq ?_
          refine wC_reg ?_
          refine wS_set rfl rfl rfl (a_fieldAddrA rfl (hT rfl) rfl rfl (hT rfl) rfl) ?_
          refine wS_set rfl rfl rfl (a_loadK rfl rfl (hT rfl) rfl) ?_
          refine wS_set rfl rfl rfl (i_eql (p := false) rfl rfl (decide_eq_false (by omega))) ?_
          refine wO_nil ?_
          refine wC_cond (p := false) rfl (fun hc => absurd hc (by decide)) (fun _ => ?_)
          refine wC_skip ?_
          refine wC_seq ?_
          refine wC_seq ?_
          refine wC_reg ?_
          refine wS_set rfl rfl rfl (a_moveS (hrow3.sl.keep rfl) (hT rfl) rfl (hT rfl) rfl) ?_
          refine wS_set rfl rfl rfl (a_lenS (hrow3.sl.keep rfl) rfl (hT rfl) rfl) ?_
          refine wS_set rfl rfl rfl (a_move rfl rfl) ?_
          refine wO_nil ?_
          refine wC_block ?_
          rw [e3]
          refine wC_loop (fun m3 ρ => ∃ (p g8 : Nat), p + m3 = acc2.length ∧ (∀ (q : Nat) (o : Rx), q < p → acc2[q]? = some o → eqR o k = false) ∧ RowX 6 46 ρ.ob x2 (rxRows acc2) ∧ SlX 6 18 ρ.ob x6 (rxRows (mem r)) ∧
              PinSt 61 [(2, .addr 2 1 0), (3, x2), (8, .addr 8 g8 0), (11, .lent 6 (rxRows l)), (12, natX .i64 l.length), (13, natX .i64 i), (24, x6), (25, natX .i64 (mem r).length), (26, natX .i64 j), (33, x2), (34, natX .i64 acc2.length), (35, natX .i64 p)] [(2, .box 1 rxZ), (8, .box g8 (rxB k))] ρ) (fun m3 ρ hi => ?_) acc2.length
            ⟨0, _, by omega, (fun q o hq => absurd hq (Nat.not_lt_zero _)), hrow3.keep rfl, hs7.keep rfl, pinned_mk rfl ⟨rfl, rfl, rfl, rfl, rfl, rfl, rfl, rfl, rfl, rfl, rfl, rfl, trivial⟩ ⟨rfl, rfl, trivial⟩⟩
          obtain ⟨p, g8, hp, hno, hrow4, hs8, hi⟩ := hi
          replace hi := hi.form
          clear he28 h hrow3 hs7
          obtain ⟨g, h, rfl⟩ := hi
          simp only at hrow4 hs8
          by_cases hpt : p < acc2.length
          · have hgo : acc2[p]? = some (acc2[p]'hpt) := List.getElem?_eq_getElem hpt
            have hwo := (hacc2 _ (List.getElem_mem hpt)).wf
            generalize hoo : acc2[p]'hpt = o at hgo hwo
            cases hv : eqR o k with
            | true =>
              rw [uniAdd_old hgo hv] at hsh2
              refine wC_seq ?_
              refine wC_reg ?_
              refine wS_set rfl rfl rfl (b_lss (p := true) rfl rfl (decide_eq_true (by omega))) ?_
              refine wO_nil ?_
              refine wC_seq ?_
              refine wC_cond (p := true) rfl (fun _ => ?_) (fun hc => absurd hc (by decide))
              refine wC_skip ?_
              refine wC_seq ?_
              refine wC_block ?_
              refine wC_seq ?_
              refine wC_reg ?_
              refine wS_idxS (hrow4.sl.keep rfl) rfl (rxRows_get hgo) (hT rfl) rfl (hT rfl) rfl rfl rfl (fun w37 rd37 he37 => ?_)
              refine wS_loadS2 (c := rxC o) he37 (hT rfl) rfl (rxC_len hwo) rfl rfl (fun rd38 => ?_)
              refine wS_set rfl rfl rfl (a_alloc (hT rfl) rfl rfl) ?_
              refine wS_eff rfl rfl (a_storeRx (r := o) (by assumption) rfl rfl rfl rfl (hT rfl) rfl rfl) ?_
              refine wO_nil ?_
              refine wC_seq ?_
              refine wC_reg ?_
              refine wS_set rfl rfl rfl (a_loadRx (by assumption) rfl rfl (hT rfl) rfl rfl) ?_
              refine wS_set rfl rfl rfl (a_loadRx (by assumption) rfl rfl (hT rfl) rfl rfl) ?_
              refine wS_set rfl rfl rfl (a_call rfl rfl fn64 rfl rfl (hv ▸ ev64 (B := B) (by omega) o hwo k hwk2)) ?_
              refine wO_nil ?_
              refine wC_cond (p := true) rfl (fun _ => ?_) (fun hc => absurd hc (by decide))
              refine wC_exit ?_
              refine wC_reg ?_
              refine wS_set rfl rfl rfl (n_add (b := 1) rfl rfl (by simp only [capN]; omega)) ?_
              refine wS_set rfl rfl rfl (a_move rfl rfl) ?_
              refine wO_nil ?_
              exact ⟨m2 - 1, by omega, j + 1, acc2, x2, by omega, hacc2, hsh2, hrow4.keep rfl, hs8.keep rfl, pinned_mk rfl ⟨rfl, rfl, rfl, rfl, rfl, rfl, rfl, rfl, trivial⟩ ⟨rfl, trivial⟩⟩
            | false =>
              refine wC_seq ?_
              refine wC_reg ?_
              refine wS_set rfl rfl rfl (b_lss (p := true) rfl rfl (decide_eq_true (by omega))) ?_
              refine wO_nil ?_
              refine wC_seq ?_
              refine wC_cond (p := true) rfl (fun _ => ?_) (fun hc => absurd hc (by decide))
              refine wC_skip ?_
              refine wC_seq ?_
              refine wC_block ?_
              refine wC_seq ?_
              refine wC_reg ?_
              refine wS_idxS (hrow4.sl.keep rfl) rfl (rxRows_get hgo) (hT rfl) rfl (hT rfl) rfl rfl rfl (fun w37 rd37 he37 => ?_)
              refine wS_loadS2 (c := rxC o) he37 (hT rfl) rfl (rxC_len hwo) rfl rfl (fun rd38 => ?_)
              refine wS_set rfl rfl rfl (a_alloc (hT rfl) rfl rfl) ?_
              refine wS_eff rfl rfl (a_storeRx (r := o) (by assumption) rfl rfl rfl rfl (hT rfl) rfl rfl) ?_
              refine wO_nil ?_
              refine wC_seq ?_
              refine wC_reg ?_
              refine wS_set rfl rfl rfl (a_loadRx (by assumption) rfl rfl (hT rfl) rfl rfl) ?_
              refine wS_set rfl rfl rfl (a_loadRx (by assumption) rfl rfl (hT rfl) rfl rfl) ?_
              refine wS_set rfl rfl rfl (a_call rfl rfl fn64 rfl rfl (hv ▸ ev64 (B := B) (by omega) o hwo k hwk2)) ?_
              refine wO_nil ?_
              refine wC_cond (p := false) rfl (fun hc => absurd hc (by decide)) (fun _ => ?_)
              refine wC_skip ?_
              refine wC_reg ?_
              refine wS_set rfl rfl rfl (n_add (b := 1) rfl rfl (by simp only [capN]; omega)) ?_
              refine wS_set rfl rfl rfl (a_move rfl rfl) ?_
              refine wO_nil ?_
              refine ⟨m3 - 1, by omega, p + 1, g8, by omega, fun q o2 hq ho2 => ?_, hrow4.keep rfl, hs8.keep rfl, pinned_mk rfl ⟨rfl, rfl, rfl, rfl, rfl, rfl, rfl, rfl, rfl, rfl, rfl, rfl, trivial⟩ ⟨rfl, rfl, trivial⟩⟩
              by_cases hqp : q = p
              · subst hqp
                rw [hgo] at ho2
                cases ho2
                exact hv
              · exact hno q o2 (by omega) ho2
          · obtain rfl : p = acc2.length := by omega
            have hnew := uniAdd_new h1 (fun q o ho => hno q o (List.getElem?_eq_some_iff.1 ho).1 ho)
            rw [hnew] at hsh2
            have hal2 : acc2.length + 1 ≤ B := by
              have k2 := uniAll_len ((mem r).drop (j + 1)) (acc2 ++ [k])
              have k3 := uniK_len (l.drop (i + 1)) (uniAll (acc2 ++ [k]) ((mem r).drop (j + 1)))
              rw [← hsh2] at k3
              simp at k2
              omega
            refine wC_seq ?_
            refine wC_reg ?_
            refine wS_set rfl rfl rfl (b_lss (p := false) rfl rfl (decide_eq_false (by omega))) ?_
            refine wO_nil ?_
            refine wC_seq ?_
            refine wC_cond (p := false) rfl (fun hc => absurd hc (by decide)) (fun _ => ?_)
            refine wC_exit ?_
            refine wC_reg ?_
            refine wS_set rfl rfl rfl (a_moveS (hrow4.sl.keep rfl) (hT rfl) rfl (hT rfl) rfl) ?_
            refine wS_set rfl rfl rfl (a_loadRx (by assumption) rfl rfl (hT rfl) rfl rfl) ?_
            refine wS_set rfl rfl rfl (a_bs1Rx (by assumption) rfl (hT rfl) rfl (hT rfl) rfl rfl rfl rfl rfl) ?_
            refine wS_appS (es := rxRows acc2) (es2 := rxRows [k]) (hrow4.keep rfl) rfl rfl (by rw [List.drop_zero, List.take_of_length_le (by rw [rxRows_len]; exact Nat.le_refl _)]) rfl (hT rfl) rfl (hT rfl) rfl rfl rfl (by rw [rxRows_len, rxRows_len]; simp only [big, List.length_singleton]; omega) rfl (by rw [rxRows_one]; simp) rfl rfl (fun g46 rd46 => ?_)
            refine wS_set rfl rfl rfl (a_assign rfl rfl) ?_
            refine wO_nil ?_
            refine wC_reg ?_
            refine wS_set rfl rfl rfl (n_add (b := 1) rfl rfl (by simp only [capN]; omega)) ?_
            refine wS_set rfl rfl rfl (a_move rfl rfl) ?_
            refine wO_nil ?_
            exact ⟨m2 - 1, by omega, j + 1, acc2 ++ [k], .own 46 g46 0 (rxRows acc2 ++ rxRows [k]).length, by omega, (fun y hy => by
              rcases List.mem_append.1 hy with hy | hy
              · exact hacc2 y hy
              · rw [List.mem_singleton.1 hy]; exact hk0), hsh2, by rw [rxRows_app]; exact .inr ⟨by rw [rxRows_one]; simp, g46, rfl, rfl⟩, hs8.keep rfl, pinned_mk rfl ⟨rfl, rfl, rfl, rfl, rfl, rfl, rfl, rfl, trivial⟩ ⟨rfl, trivial⟩⟩
      · obtain rfl : j = (mem r).length := by omega
        rw [List.drop_eq_nil_of_le (Nat.le_refl _), uniAll] at hsh2
        refine wC_seq ?_
        refine wC_reg ?_
        refine wS_set rfl rfl rfl (b_lss (p := false) rfl rfl (decide_eq_false (by omega))) ?_
        refine wO_nil ?_
        refine wC_seq ?_
        refine wC_cond (p := false) rfl (fun hc => absurd hc (by decide)) (fun _ => ?_)
        refine wC_exit ?_
        refine wC_reg ?_
        refine wS_set rfl rfl rfl (n_add (b := 1) rfl rfl (by simp only [capN]; omega)) ?_
        refine wS_set rfl rfl rfl (a_move rfl rfl) ?_
        refine wO_nil ?_
        exact ⟨m - 1, by omega, i + 1, acc2, x2, by omega, hacc2, hsh2, hrow3.keep rfl, pinned_mk rfl ⟨rfl, rfl, rfl, rfl, rfl, trivial⟩ ⟨rfl, trivial⟩⟩
  · obtain rfl : i = l.length := by omega
    rw [List.drop_eq_nil_of_le (Nat.le_refl _), uniK] at hsh
    have hend : unionR l = uniEnd acc := by unfold unionR; rw [hsh]
    rw [hend] at hgood ⊢
    have hal : acc.length ≤ B := by rw [← hsh]; exact hK
    cases acc with
    | nil =>
      refine wC_seq ?_
      refine wC_reg ?_
      refine wS_set rfl rfl rfl (b_lss (p := false) rfl rfl (decide_eq_false (by omega))) ?_
      refine wO_nil ?_
      refine wC_seq ?_
      refine wC_cond (p := false) rfl (fun hc => absurd hc (by decide)) (fun _ => ?_)
      refine wC_exit ?_
      refine wC_seq ?_
      refine wC_seq ?_
      refine wC_reg ?_
      refine wS_set rfl rfl rfl (a_moveS (hrow.sl.keep rfl) (hT rfl) rfl (hT rfl) rfl) ?_
      refine wS_set rfl rfl rfl (a_lenS (hrow.sl.keep rfl) rfl (hT rfl) rfl) ?_
      refine wO_nil ?_
      refine wC_block ?_
      refine wC_seq ?_
      refine wC_reg ?_
      refine wS_set rfl rfl rfl (n_eql (b := 0) rfl rfl ) ?_
      refine wS_set rfl rfl rfl (a_assign rfl rfl) ?_
      refine wO_nil ?_
      refine wC_cond (p := true) rfl (fun _ => ?_) (fun hc => absurd hc (by decide))
      refine wC_seq ?_
      refine wC_reg ?_
      refine wS_set rfl rfl rfl (a_build (ys := [.lit (.int .i64 1)]) rfl (hT rfl) rfl rfl rfl rfl) ?_
      refine wS_eff rfl rfl (a_storeRx (r := noneR) (B := B) noneR_good.wf rfl rfl rfl rfl (hT rfl) rfl rfl) ?_
      refine wO_nil ?_
      refine wC_ret ?_
      exact end_rx (B := B) noneR_good.wf rfl rfl rfl (hT rfl) rfl rfl
    | cons a acc =>
      cases acc with
      | nil =>
        have hwa := (hacc a (by simp)).wf
        have hlen1 : (rxRows [a]).length = 1 := by rw [rxRows_len]; rfl
        refine wC_seq ?_
        refine wC_reg ?_
        refine wS_set rfl rfl rfl (b_lss (p := false) rfl rfl (decide_eq_false (by omega))) ?_
        refine wO_nil ?_
        refine wC_seq ?_
        refine wC_cond (p := false) rfl (fun hc => absurd hc (by decide)) (fun _ => ?_)
        refine wC_exit ?_
        refine wC_seq ?_
        refine wC_seq ?_
        refine wC_reg ?_
        refine wS_set rfl rfl rfl (a_moveS (hrow.sl.keep rfl) (hT rfl) rfl (hT rfl) rfl) ?_
        refine wS_set rfl rfl rfl (a_lenS (hrow.sl.keep rfl) rfl (hT rfl) rfl) ?_
        refine wO_nil ?_
        refine wC_block ?_
        refine wC_seq ?_
        refine wC_reg ?_
        refine wS_set rfl rfl rfl (b_eql (p := false) (b := 0) rfl rfl (decide_eq_false (by omega))) ?_
        refine wS_set rfl rfl rfl (a_assign rfl rfl) ?_
        refine wO_nil ?_
        refine wC_cond (p := false) rfl (fun hc => absurd hc (by decide)) (fun _ => ?_)
        refine wC_seq ?_
        refine wC_reg ?_
        refine wS_set rfl rfl rfl (b_eql (p := true) (b := 1) rfl rfl (decide_eq_true (by omega))) ?_
        refine wS_set rfl rfl rfl (a_assign rfl rfl) ?_
        refine wO_nil ?_
        refine wC_cond (p := true) rfl (fun _ => ?_) (fun hc => absurd hc (by decide))
        refine wC_seq ?_
        refine wC_reg ?_
        refine wS_set rfl rfl rfl (a_moveS (hrow.sl.keep rfl) (hT rfl) rfl (hT rfl) rfl) ?_
        refine wS_idxS (a := 0) (hrow.sl.keep rfl) rfl (rxRows_get (l := [a]) (i := 0) (r := a) rfl) (hT rfl) rfl (hT rfl) rfl rfl rfl (fun w57 rd57 he57 => ?_)
        refine wS_loadS2 (c := rxC a) he57 (hT rfl) rfl (rxC_len hwa) rfl rfl (fun rd58 => ?_)
        refine wS_eff rfl rfl (a_storeRx (by assumption) rfl rfl rfl (by first | rfl | exact rxB_len (by assumption)) (hT rfl) rfl rfl) ?_
        refine wO_nil ?_
        refine wC_ret ?_
        exact end_rx hwa rfl rfl rfl (hT rfl) rfl rfl
      | cons b acc =>
        obtain ⟨ob', hk, hob⟩ := hrow.kept
        have hlen2 : (rxRows (a :: b :: acc)).length = acc.length + 2 := by rw [rxRows_len]; simp
        simp only [List.length_cons] at hal
        refine wC_seq ?_
        refine wC_reg ?_
        refine wS_set rfl rfl rfl (b_lss (p := false) rfl rfl (decide_eq_false (by omega))) ?_
        refine wO_nil ?_
        refine wC_seq ?_
        refine wC_cond (p := false) rfl (fun hc => absurd hc (by decide)) (fun _ => ?_)
        refine wC_exit ?_
        refine wC_seq ?_
        refine wC_seq ?_
        refine wC_reg ?_
        refine wS_set rfl rfl rfl (a_moveS (hrow.sl.keep rfl) (hT rfl) rfl (hT rfl) rfl) ?_
        refine wS_set rfl rfl rfl (a_lenS (hrow.sl.keep rfl) rfl (hT rfl) rfl) ?_
        refine wO_nil ?_
        refine wC_block ?_
        refine wC_seq ?_
        refine wC_reg ?_
        refine wS_set rfl rfl rfl (b_eql (p := false) (b := 0) rfl rfl (decide_eq_false (by omega))) ?_
        refine wS_set rfl rfl rfl (a_assign rfl rfl) ?_
        refine wO_nil ?_
        refine wC_cond (p := false) rfl (fun hc => absurd hc (by decide)) (fun _ => ?_)
        refine wC_seq ?_
        refine wC_reg ?_
        refine wS_set rfl rfl rfl (b_eql (p := false) (b := 1) rfl rfl (decide_eq_false (by omega))) ?_
        refine wS_set rfl rfl rfl (a_assign rfl rfl) ?_
        refine wO_nil ?_
        refine wC_cond (p := false) rfl (fun hc => absurd hc (by decide)) (fun _ => ?_)
        refine wC_skip ?_
        refine wC_seq ?_
        refine wC_reg ?_
        refine wS_set rfl rfl rfl (a_moveS (hrow.sl.keep rfl) (hT rfl) rfl (hT rfl) rfl) ?_
        refine wS_build (ys := [.lit (.int .i64 5), .sl 6 (rxRows (a :: b :: acc))]) (.cons .v (.cons hk .nil)) (hT rfl) rfl rfl rfl rfl rfl rfl (fun rd60 wr60 => ?_)
        refine wS_eff rfl rfl (a_storeRx (r := .mk 5 zeroW (a :: b :: acc)) hgood.wf rfl rfl ((hob 2 (by decide)).trans rfl) rfl (hT rfl) rfl rfl) ?_
        refine wO_nil ?_
        refine wC_ret ?_
        exact end_rx hgood.wf rfl rfl rfl (hT rfl) rfl rfl

set_option maxRecDepth 100000 in
theorem ev46N : FnEv tab ext 46 [.v (.sl 6 [])] [] (.ret [rxV (unionR [])], []) := FnEv.work extLe 10 (by kernel_rfl)

end Go.Proofs.YtjppkpjlbbkdnaaDoor

namespace Go.Proofs.YtjppkpjlbbkdnaaDoor
open Go Go.Dv

set_option maxRecDepth 100000 in
set_option maxHeartbeats 8000000 in
theorem ev26 {B b : Nat} (hB : B ≤ 2147483648) (h2 : 2 ≤ B) (hb : b < 256) : ∀ (r : Rx), r.good B → okD B b r → FnEv tab ext 26 [.v (rxV r), .v (byteV b)] [] (.ret [rxV (der b r)], []) := by
  intro r
  induction r using Rx.ind' with
  | h r ih =>
    intro hg ho
    have hw := hg.wf
    have hlen := hg.len
    have hgood := der_good h2 r hg ho
    have hgw := hgood.wf
    have hen := emptyR_good (B := B)
    have hnn := noneR_good (B := B)
    refine fn_go _ no26 fn26 rfl rfl rfl ?_
    rw [der_eq] at hgood hgw ⊢
    cases ho with
    | mk hk hk4 hk5 =>
      by_cases h3 : r.k = 3
      · rw [if_pos h3]
        cases hh : has r.s b with
        | true =>
          rw [if_pos rfl]
          refine wC_seq ?_
          refine wC_reg ?_
          refine wS_set rfl rfl rfl (a_boxRx (by assumption) rfl (hT rfl) rfl rfl rfl) ?_
          refine wS_set rfl rfl rfl (a_alloc (hT rfl) rfl rfl) ?_
          refine wO_nil ?_
          refine wC_seq ?_
          refine wC_seq ?_
          refine wC_reg ?_
          refine wS_set rfl rfl rfl (a_fieldAddrA rfl (hT rfl) rfl rfl (hT rfl) rfl) ?_
          refine wS_set rfl rfl rfl (a_loadK rfl rfl (hT rfl) rfl) ?_
          refine wO_nil ?_
          refine wC_block ?_
          refine wC_seq ?_
          refine wC_reg ?_
          refine wS_set rfl rfl rfl (i_eql (p := true) rfl rfl (decide_eq_true (by omega))) ?_
          refine wS_set rfl rfl rfl (a_assign rfl rfl) ?_
          refine wO_nil ?_
          refine wC_cond (p := true) rfl (fun _ => ?_) (fun hc => absurd hc (by decide))
          refine wC_seq ?_
          refine wC_reg ?_
          refine wS_set rfl rfl rfl (a_fieldAddrA rfl (hT rfl) rfl rfl (hT rfl) rfl) ?_
          refine wS_set rfl rfl rfl (a_loadSet (by assumption) rfl rfl (hT rfl) rfl rfl) ?_
          refine wS_set rfl rfl rfl (a_move rfl rfl) ?_
          refine wS_set rfl rfl rfl (a_call rfl rfl fn44 rfl rfl (hasT hh hb hw.set)) ?_
          refine wO_nil ?_
          refine wC_cond (p := true) rfl (fun _ => ?_) (fun hc => absurd hc (by decide))
          refine wC_seq ?_
          refine wC_reg ?_
          refine wS_set rfl rfl rfl (a_build (ys := [.lit (.int .i64 2)]) rfl (hT rfl) rfl rfl rfl rfl) ?_
          refine wS_eff rfl rfl (a_storeRx (r := emptyR) (B := B) hen.wf rfl rfl rfl rfl (hT rfl) rfl rfl) ?_
          refine wO_nil ?_
          refine wC_ret ?_
          exact end_rx hen.wf rfl rfl rfl (hT rfl) rfl rfl
        | false =>
          rw [if_neg (by simp)]
          refine wC_seq ?_
          refine wC_reg ?_
          refine wS_set rfl rfl rfl (a_boxRx (by assumption) rfl (hT rfl) rfl rfl rfl) ?_
          refine wS_set rfl rfl rfl (a_alloc (hT rfl) rfl rfl) ?_
          refine wO_nil ?_
          refine wC_seq ?_
          refine wC_seq ?_
          refine wC_reg ?_
          refine wS_set rfl rfl rfl (a_fieldAddrA rfl (hT rfl) rfl rfl (hT rfl) rfl) ?_
          refine wS_set rfl rfl rfl (a_loadK rfl rfl (hT rfl) rfl) ?_
          refine wO_nil ?_
          refine wC_block ?_
          refine wC_seq ?_
          refine wC_reg ?_
          refine wS_set rfl rfl rfl (i_eql (p := true) rfl rfl (decide_eq_true (by omega))) ?_
          refine wS_set rfl rfl rfl (a_assign rfl rfl) ?_
          refine wO_nil ?_
          refine wC_cond (p := true) rfl (fun _ => ?_) (fun hc => absurd hc (by decide))
          refine wC_seq ?_
          refine wC_reg ?_
          refine wS_set rfl rfl rfl (a_fieldAddrA rfl (hT rfl) rfl rfl (hT rfl) rfl) ?_
          refine wS_set rfl rfl rfl (a_loadSet (by assumption) rfl rfl (hT rfl) rfl rfl) ?_
          refine wS_set rfl rfl rfl (a_move rfl rfl) ?_
          refine wS_set rfl rfl rfl (a_call rfl rfl fn44 rfl rfl (hasT hh hb hw.set)) ?_
          refine wO_nil ?_
          refine wC_cond (p := false) rfl (fun hc => absurd hc (by decide)) (fun _ => ?_)
          refine wC_skip ?_
          refine wC_seq ?_
          refine wC_reg ?_
          refine wS_set rfl rfl rfl (a_build (ys := [.lit (.int .i64 1)]) rfl (hT rfl) rfl rfl rfl rfl) ?_
          refine wS_eff rfl rfl (a_storeRx (r := noneR) (B := B) hnn.wf rfl rfl rfl rfl (hT rfl) rfl rfl) ?_
          refine wO_nil ?_
          refine wC_ret ?_
          exact end_rx hnn.wf rfl rfl rfl (hT rfl) rfl rfl
      · rw [if_neg h3] at hgood hgw ⊢
        by_cases h4 : r.k = 4
        · rw [if_pos h4] at hgood hgw ⊢
          have hkid := hk (.inl h4)
          have hdg : ∀ x ∈ r.l, (der b x).good B := fun x hx => der_good h2 x (hg.kids x hx) (hkid x hx)
          have hcg := derCat_good hg.kids hdg hlen
          have hcl := derCat_len b r.l
          refine wC_seq ?_
          refine wC_reg ?_
          refine wS_set rfl rfl rfl (a_boxRx (by assumption) rfl (hT rfl) rfl rfl rfl) ?_
          refine wS_set rfl rfl rfl (a_alloc (hT rfl) rfl rfl) ?_
          refine wO_nil ?_
          refine wC_seq ?_
          refine wC_seq ?_
          refine wC_reg ?_
          refine wS_set rfl rfl rfl (a_fieldAddrA rfl (hT rfl) rfl rfl (hT rfl) rfl) ?_
          refine wS_set rfl rfl rfl (a_loadK rfl rfl (hT rfl) rfl) ?_
          refine wO_nil ?_
          refine wC_block ?_
          refine wC_seq ?_
          refine wC_reg ?_
          refine wS_set rfl rfl rfl (i_eql (p := false) rfl rfl (decide_eq_false (by omega))) ?_
          refine wS_set rfl rfl rfl (a_assign rfl rfl) ?_
          refine wO_nil ?_
          refine wC_cond (p := false) rfl (fun hc => absurd hc (by decide)) (fun _ => ?_)
          refine wC_seq ?_
          refine wC_reg ?_
          refine wS_set rfl rfl rfl (i_eql (p := true) rfl rfl (decide_eq_true (by omega))) ?_
          refine wS_set rfl rfl rfl (a_assign rfl rfl) ?_
          refine wO_nil ?_
          refine wC_cond (p := true) rfl (fun _ => ?_) (fun hc => absurd hc (by decide))
          refine wC_seq ?_
          refine wC_reg ?_
          refine wS_set rfl rfl rfl (a_assignNil rfl (hT rfl) rfl (hT rfl)) ?_
          refine wO_nil ?_
          refine wC_seq ?_
          refine wC_seq ?_
          refine wC_reg ?_
          refine wS_set rfl rfl rfl (a_fieldAddrA rfl (hT rfl) rfl rfl (hT rfl) rfl) ?_
          refine wS_set rfl rfl rfl (a_loadKids (by assumption) rfl rfl (hT rfl) rfl) ?_
          refine wS_set rfl rfl rfl (a_lenK rfl rfl (hT rfl) rfl) ?_
          refine wS_set rfl rfl rfl (a_move rfl rfl) ?_
          refine wO_nil ?_
          refine wC_blockI (fun ρ => ∃ x, RowX 6 43 ρ.ob x (rxRows (derCat b r.l)) ∧ PinSt 80 [(4, .addr 4 1 0), (5, x)] [(4, .box 1 rxZ)] ρ) ?_ (fun ρ hi => ?_)
          · refine wC_loop (fun m ρ => ∃ (i : Nat) (outs : List Rx) (x : X), i + m = r.l.length ∧ outs.length = i ∧ derCat b r.l = outs ++ derCat b (r.l.drop i) ∧ RowX 6 43 ρ.ob x (rxRows outs) ∧
                PinSt 80 [(1, .v (byteV b)), (2, .addr 2 1 0), (4, .addr 4 1 0), (5, x), (23, .v (.sl 6 (rxRows r.l))), (24, natX .i64 r.l.length), (25, natX .i64 i)] [(2, .box 1 (rxB r)), (4, .box 1 rxZ)] ρ) (fun m ρ hi => ?_) r.l.length
              ⟨0, [], .nil 6, by omega, rfl, by rw [List.drop_zero]; rfl, .inl ⟨rfl, by rw [rxRows]⟩, pinned_mk rfl ⟨rfl, rfl, rfl, rfl, rfl, rfl, rfl, trivial⟩ ⟨rfl, rfl, trivial⟩⟩
            obtain ⟨i, outs, x, hm, hout, hsh, hrow, hi⟩ := hi
            replace hi := hi.form
            obtain ⟨g, h, rfl⟩ := hi
            simp only at hrow
            by_cases hlt : i < r.l.length
            · have hget : r.l[i]? = some (r.l[i]'hlt) := List.getElem?_eq_getElem hlt
              have hmem := List.getElem_mem hlt
              have hkg := hg.kids _ hmem
              have hkd := ih _ hmem hkg (hkid _ hmem)
              have hdw := (hdg _ hmem).wf
              have hkw := hkg.wf
              rw [derCat_drop hget] at hsh
              generalize hkk : r.l[i]'hlt = k at hget hmem hkg hkd hdw hkw hsh
              have e3 := rxRows_len r.l
              have hcat : ∀ y ∈ der b k :: r.l.drop (i + 1), y.good B := fun y hy => by
                rcases List.mem_cons.1 hy with rfl | hy
                · exact hdg k hmem
                · exact hg.kids y (List.mem_of_mem_drop hy)
              have hcatl : (der b k :: r.l.drop (i + 1)).length ≤ B := by simp; omega
              have hcev := ev45 hB hcat hcatl
              have hcw := (concatR_good hcat hcatl).wf
              have hrows : ((rxRows [der b k] ++ (rxRows r.l).drop (i + 1)).drop 0).take (1 + ((rxRows r.l).drop (i + 1)).length) = rxRows (der b k :: r.l.drop (i + 1)) := by
                rw [whole (by rw [List.length_append, rxRows_len, List.length_singleton]; exact Nat.le_refl _), rxRows_one, rxRows_cons, rxRows_drop]; rfl
              generalize hcc : concatR (der b k :: r.l.drop (i + 1)) = c at hsh hcev hcw
              rcases hrow with ⟨rfl, hnil⟩ | ⟨hne, go, rfl, ho43⟩
              · have houts : outs = [] := rxRows_nil_iff.1 hnil
                subst houts
                cases hn : nul k with
                | true =>
                  rw [hn, if_pos rfl] at hsh
                  refine wC_seq ?_
                  refine wC_reg ?_
                  refine wS_set rfl rfl rfl (b_lss (p := true) rfl rfl (decide_eq_true (by omega))) ?_
                  refine wO_nil ?_
                  refine wC_seq ?_
                  refine wC_cond (p := true) rfl (fun _ => ?_) (fun hc => absurd hc (by decide))
                  refine wC_skip ?_
                  refine wC_seq ?_
                  refine wC_block ?_
                  refine wC_seq ?_
                  refine wC_reg ?_
                  refine wS_set rfl rfl rfl (a_move rfl rfl) ?_
                  refine wS_set rfl rfl rfl (n_kid hget rfl rfl (hT rfl) rfl (hT rfl) rfl) ?_
                  refine wS_set rfl rfl rfl (a_loadRxR (by assumption) rfl (hT rfl) rfl rfl) ?_
                  refine wS_set rfl rfl rfl (a_alloc (hT rfl) rfl rfl) ?_
                  refine wS_set rfl rfl rfl (a_assign rfl rfl) ?_
                  refine wS_eff rfl rfl (a_storeRx (by assumption) rfl rfl rfl (by first | rfl | exact rxB_len (by assumption)) (hT rfl) rfl rfl) ?_
                  refine wO_nil ?_
                  refine wC_seq ?_
                  refine wC_regD (by kernel_rfl) ?_
                  refine wS_set rfl rfl rfl (a_moveNil rfl (hT rfl) rfl (hT rfl)) ?_
                  refine wS_set rfl rfl rfl (a_loadRx (by assumption) rfl rfl (hT rfl) rfl rfl) ?_
                  refine wS_set rfl rfl rfl (a_move rfl rfl) ?_
                  refine wS_set rfl rfl rfl (a_call rfl rfl fn26 rfl rfl (hkd)) ?_
                  refine wS_set rfl rfl rfl (a_bs1Rx hdw rfl (hT rfl) rfl (hT rfl) rfl rfl rfl rfl rfl) ?_
                  refine wS_set rfl rfl rfl (a_fieldAddrA rfl (hT rfl) rfl rfl (hT rfl) rfl) ?_
                  refine wS_set rfl rfl rfl (a_loadKids (by assumption) rfl rfl (hT rfl) rfl) ?_
                  refine wS_set rfl rfl rfl (a_move rfl rfl) ?_
                  refine wS_set rfl rfl rfl (n_add (b := 1) rfl rfl (by simp only [capN]; omega)) ?_
                  refine wS_set rfl rfl rfl (a_sliceFrom (a := i + 1) rfl rfl (hT rfl) rfl (hT rfl) rfl (by rw [rxRows_len]; omega)) ?_
                  refine wS_set rfl rfl rfl (a_appendOV (es0 := rxRows [der b k]) (es := (rxRows r.l).drop (i + 1)) (mt := true) (z := 6) rfl rfl rfl rfl (hT rfl) rfl (hT rfl) rfl rfl rfl rfl (by rw [rxRows_len]; rfl) (by rw [List.length_drop, rxRows_len]; simp only [big]; omega) rfl) ?_
                  refine wS_set rfl rfl rfl (a_callL rfl rfl rfl fn45 rfl (lent_ev hrows hcev)) ?_
                  refine wS_set rfl rfl rfl (a_bs1Rx hcw rfl (hT rfl) rfl (hT rfl) rfl rfl rfl rfl rfl) ?_
                  refine wS_set rfl rfl rfl (a_appendNO (es := rxRows [c]) rfl rfl rfl (whole (by rw [rxRows_len]; exact Nat.le_refl _)) rfl (hT rfl) rfl (hT rfl) rfl rfl rfl (by rw [rxRows_len]; simp [big]) rfl (by rw [rxRows_one]; simp) rfl) ?_
                  refine wS_set rfl rfl rfl (a_assign rfl rfl) ?_
                  refine wO_nil ⟨rfl, by kernel_rfl, ?_⟩
                  refine wC_seq ?_
                  refine wC_reg ?_
                  refine wS_set rfl rfl rfl (a_loadRx (by assumption) rfl rfl (hT rfl) rfl rfl) ?_
                  refine wS_set rfl rfl rfl (a_call rfl rfl fn25 rfl rfl (hn ▸ ev25 (B := B) (by omega) k hkw)) ?_
                  refine wS_set rfl rfl rfl (a_un rfl rfl) ?_
                  refine wO_nil ?_
                  refine wC_cond (p := false) rfl (fun hc => absurd hc (by decide)) (fun _ => ?_)
                  refine wC_skip ?_
                  refine wC_reg ?_
                  refine wS_set rfl rfl rfl (n_add (b := 1) rfl rfl (by simp only [capN]; omega)) ?_
                  refine wS_set rfl rfl rfl (a_move rfl rfl) ?_
                  refine wO_nil ?_
                  exact ⟨m - 1, by omega, i + 1, [c], _, by omega, by simp only [List.length_append, List.length_cons, List.length_nil] at hout ⊢; omega, hsh, .inr ⟨by rw [rxRows_one]; simp, _, rfl, rfl⟩, pinned_mk rfl ⟨rfl, rfl, rfl, rfl, rfl, rfl, rfl, trivial⟩ ⟨rfl, rfl, trivial⟩⟩
                | false =>
                  rw [hn, if_neg (by simp)] at hsh
                  refine wC_seq ?_
                  refine wC_reg ?_
                  refine wS_set rfl rfl rfl (b_lss (p := true) rfl rfl (decide_eq_true (by omega))) ?_
                  refine wO_nil ?_
                  refine wC_seq ?_
                  refine wC_cond (p := true) rfl (fun _ => ?_) (fun hc => absurd hc (by decide))
                  refine wC_skip ?_
                  refine wC_seq ?_
                  refine wC_block ?_
                  refine wC_seq ?_
                  refine wC_reg ?_
                  refine wS_set rfl rfl rfl (a_move rfl rfl) ?_
                  refine wS_set rfl rfl rfl (n_kid hget rfl rfl (hT rfl) rfl (hT rfl) rfl) ?_
                  refine wS_set rfl rfl rfl (a_loadRxR (by assumption) rfl (hT rfl) rfl rfl) ?_
                  refine wS_set rfl rfl rfl (a_alloc (hT rfl) rfl rfl) ?_
                  refine wS_set rfl rfl rfl (a_assign rfl rfl) ?_
                  refine wS_eff rfl rfl (a_storeRx (by assumption) rfl rfl rfl (by first | rfl | exact rxB_len (by assumption)) (hT rfl) rfl rfl) ?_
                  refine wO_nil ?_
                  refine wC_seq ?_
                  refine wC_regD (by kernel_rfl) ?_
                  refine wS_set rfl rfl rfl (a_moveNil rfl (hT rfl) rfl (hT rfl)) ?_
                  refine wS_set rfl rfl rfl (a_loadRx (by assumption) rfl rfl (hT rfl) rfl rfl) ?_
                  refine wS_set rfl rfl rfl (a_move rfl rfl) ?_
                  refine wS_set rfl rfl rfl (a_call rfl rfl fn26 rfl rfl (hkd)) ?_
                  refine wS_set rfl rfl rfl (a_bs1Rx hdw rfl (hT rfl) rfl (hT rfl) rfl rfl rfl rfl rfl) ?_
                  refine wS_set rfl rfl rfl (a_fieldAddrA rfl (hT rfl) rfl rfl (hT rfl) rfl) ?_
                  refine wS_set rfl rfl rfl (a_loadKids (by assumption) rfl rfl (hT rfl) rfl) ?_
                  refine wS_set rfl rfl rfl (a_move rfl rfl) ?_
                  refine wS_set rfl rfl rfl (n_add (b := 1) rfl rfl (by simp only [capN]; omega)) ?_
                  refine wS_set rfl rfl rfl (a_sliceFrom (a := i + 1) rfl rfl (hT rfl) rfl (hT rfl) rfl (by rw [rxRows_len]; omega)) ?_
                  refine wS_set rfl rfl rfl (a_appendOV (es0 := rxRows [der b k]) (es := (rxRows r.l).drop (i + 1)) (mt := true) (z := 6) rfl rfl rfl rfl (hT rfl) rfl (hT rfl) rfl rfl rfl rfl (by rw [rxRows_len]; rfl) (by rw [List.length_drop, rxRows_len]; simp only [big]; omega) rfl) ?_
                  refine wS_set rfl rfl rfl (a_callL rfl rfl rfl fn45 rfl (lent_ev hrows hcev)) ?_
                  refine wS_set rfl rfl rfl (a_bs1Rx hcw rfl (hT rfl) rfl (hT rfl) rfl rfl rfl rfl rfl) ?_
                  refine wS_set rfl rfl rfl (a_appendNO (es := rxRows [c]) rfl rfl rfl (whole (by rw [rxRows_len]; exact Nat.le_refl _)) rfl (hT rfl) rfl (hT rfl) rfl rfl rfl (by rw [rxRows_len]; simp [big]) rfl (by rw [rxRows_one]; simp) rfl) ?_
                  refine wS_set rfl rfl rfl (a_assign rfl rfl) ?_
                  refine wO_nil ⟨rfl, by kernel_rfl, ?_⟩
                  refine wC_seq ?_
                  refine wC_reg ?_
                  refine wS_set rfl rfl rfl (a_loadRx (by assumption) rfl rfl (hT rfl) rfl rfl) ?_
                  refine wS_set rfl rfl rfl (a_call rfl rfl fn25 rfl rfl (hn ▸ ev25 (B := B) (by omega) k hkw)) ?_
                  refine wS_set rfl rfl rfl (a_un rfl rfl) ?_
                  refine wO_nil ?_
                  refine wC_cond (p := true) rfl (fun _ => ?_) (fun hc => absurd hc (by decide))
                  refine wC_exit ?_
                  exact ⟨_, by rw [hsh]; exact .inr ⟨by rw [show ([] ++ [c] : List Rx) = [c] from rfl, rxRows_one]; simp, _, rfl, rfl⟩, pinned_mk rfl ⟨rfl, rfl, trivial⟩ ⟨rfl, trivial⟩⟩
              · have hol : outs.length ≤ B := by omega
                obtain ⟨h', rfl⟩ : ∃ h', h = upd h' 43 (.row go true 6 (rxRows outs)) := ⟨h, by
                  funext q; unfold upd; split
                  · rename_i e; subst e; exact ho43
                  · rfl⟩
                cases hn : nul k with
                | true =>
                  rw [hn, if_pos rfl] at hsh
                  refine wC_seq ?_
                  refine wC_reg ?_
                  refine wS_set rfl rfl rfl (b_lss (p := true) rfl rfl (decide_eq_true (by omega))) ?_
                  refine wO_nil ?_
                  refine wC_seq ?_
                  refine wC_cond (p := true) rfl (fun _ => ?_) (fun hc => absurd hc (by decide))
                  refine wC_skip ?_
                  refine wC_seq ?_
                  refine wC_block ?_
                  refine wC_seq ?_
                  refine wC_reg ?_
                  refine wS_set rfl rfl rfl (a_move rfl rfl) ?_
                  refine wS_set rfl rfl rfl (n_kid hget rfl rfl (hT rfl) rfl (hT rfl) rfl) ?_
                  refine wS_set rfl rfl rfl (a_loadRxR (by assumption) rfl (hT rfl) rfl rfl) ?_
                  refine wS_set rfl rfl rfl (a_alloc (hT rfl) rfl rfl) ?_
                  refine wS_set rfl rfl rfl (a_assign rfl rfl) ?_
                  refine wS_eff rfl rfl (a_storeRx (by assumption) rfl rfl rfl (by first | rfl | exact rxB_len (by assumption)) (hT rfl) rfl rfl) ?_
                  refine wO_nil ?_
                  refine wC_seq ?_
                  refine wC_regD (by kernel_rfl) ?_
                  refine wS_set rfl rfl rfl (a_move (y := .own 43 go 0 (rxRows outs).length) rfl rfl) ?_
                  refine wS_set rfl rfl rfl (a_loadRx (by assumption) rfl rfl (hT rfl) rfl rfl) ?_
                  refine wS_set rfl rfl rfl (a_move rfl rfl) ?_
                  refine wS_set rfl rfl rfl (a_call rfl rfl fn26 rfl rfl (hkd)) ?_
                  refine wS_set rfl rfl rfl (a_bs1Rx hdw rfl (hT rfl) rfl (hT rfl) rfl rfl rfl rfl rfl) ?_
                  refine wS_set rfl rfl rfl (a_fieldAddrA rfl (hT rfl) rfl rfl (hT rfl) rfl) ?_
                  refine wS_set rfl rfl rfl (a_loadKids (by assumption) rfl rfl (hT rfl) rfl) ?_
                  refine wS_set rfl rfl rfl (a_move rfl rfl) ?_
                  refine wS_set rfl rfl rfl (n_add (b := 1) rfl rfl (by simp only [capN]; omega)) ?_
                  refine wS_set rfl rfl rfl (a_sliceFrom (a := i + 1) rfl rfl (hT rfl) rfl (hT rfl) rfl (by rw [rxRows_len]; omega)) ?_
                  refine wS_set rfl rfl rfl (a_appendOV (es0 := rxRows [der b k]) (es := (rxRows r.l).drop (i + 1)) (mt := true) (z := 6) rfl rfl rfl rfl (hT rfl) rfl (hT rfl) rfl rfl rfl rfl (by rw [rxRows_len]; rfl) (by rw [List.length_drop, rxRows_len]; simp only [big]; omega) rfl) ?_
                  refine wS_set rfl rfl rfl (a_callL rfl rfl rfl fn45 rfl (lent_ev hrows hcev)) ?_
                  refine wS_set rfl rfl rfl (a_bs1Rx hcw rfl (hT rfl) rfl (hT rfl) rfl rfl rfl rfl rfl) ?_
                  refine wS_set rfl rfl rfl (a_appendOO (es0 := rxRows outs) (es := rxRows [c]) (mt := true) (z := 6) rfl rfl rfl rfl (whole (by rw [rxRows_len]; exact Nat.le_refl _)) rfl (hT rfl) rfl (hT rfl) rfl rfl rfl rfl rfl (by rw [rxRows_len, rxRows_len]; simp only [big, List.length_singleton]; omega) rfl) ?_
                  refine wS_set rfl rfl rfl (a_assign rfl rfl) ?_
                  refine wO_nil ⟨rfl, by kernel_rfl, ?_⟩
                  refine wC_seq ?_
                  refine wC_reg ?_
                  refine wS_set rfl rfl rfl (a_loadRx (by assumption) rfl rfl (hT rfl) rfl rfl) ?_
                  refine wS_set rfl rfl rfl (a_call rfl rfl fn25 rfl rfl (hn ▸ ev25 (B := B) (by omega) k hkw)) ?_
                  refine wS_set rfl rfl rfl (a_un rfl rfl) ?_
                  refine wO_nil ?_
                  refine wC_cond (p := false) rfl (fun hc => absurd hc (by decide)) (fun _ => ?_)
                  refine wC_skip ?_
                  refine wC_reg ?_
                  refine wS_set rfl rfl rfl (n_add (b := 1) rfl rfl (by simp only [capN]; omega)) ?_
                  refine wS_set rfl rfl rfl (a_move rfl rfl) ?_
                  refine wO_nil ?_
                  exact ⟨m - 1, by omega, i + 1, outs ++ [c], _, by omega, by simp only [List.length_append, List.length_cons, List.length_nil] at hout ⊢; omega, by rw [hsh]; simp, by rw [rxRows_app]; exact .inr ⟨by rw [rxRows_one]; simp, _, by rw [List.length_append]; rfl, rfl⟩, pinned_mk rfl ⟨rfl, rfl, rfl, rfl, rfl, rfl, rfl, trivial⟩ ⟨rfl, rfl, trivial⟩⟩
                | false =>
                  rw [hn, if_neg (by simp)] at hsh
                  refine wC_seq ?_
                  refine wC_reg ?_
                  refine wS_set rfl rfl rfl (b_lss (p := true) rfl rfl (decide_eq_true (by omega))) ?_
                  refine wO_nil ?_
                  refine wC_seq ?_
                  refine wC_cond (p := true) rfl (fun _ => ?_) (fun hc => absurd hc (by decide))
                  refine wC_skip ?_
                  refine wC_seq ?_
                  refine wC_block ?_
                  refine wC_seq ?_
                  refine wC_reg ?_
                  refine wS_set rfl rfl rfl (a_move rfl rfl) ?_
                  refine wS_set rfl rfl rfl (n_kid hget rfl rfl (hT rfl) rfl (hT rfl) rfl) ?_
                  refine wS_set rfl rfl rfl (a_loadRxR (by assumption) rfl (hT rfl) rfl rfl) ?_
                  refine wS_set rfl rfl rfl (a_alloc (hT rfl) rfl rfl) ?_
                  refine wS_set rfl rfl rfl (a_assign rfl rfl) ?_
                  refine wS_eff rfl rfl (a_storeRx (by assumption) rfl rfl rfl (by first | rfl | exact rxB_len (by assumption)) (hT rfl) rfl rfl) ?_
                  refine wO_nil ?_
                  refine wC_seq ?_
                  refine wC_regD (by kernel_rfl) ?_
                  refine wS_set rfl rfl rfl (a_move (y := .own 43 go 0 (rxRows outs).length) rfl rfl) ?_
                  refine wS_set rfl rfl rfl (a_loadRx (by assumption) rfl rfl (hT rfl) rfl rfl) ?_
                  refine wS_set rfl rfl rfl (a_move rfl rfl) ?_
                  refine wS_set rfl rfl rfl (a_call rfl rfl fn26 rfl rfl (hkd)) ?_
                  refine wS_set rfl rfl rfl (a_bs1Rx hdw rfl (hT rfl) rfl (hT rfl) rfl rfl rfl rfl rfl) ?_
                  refine wS_set rfl rfl rfl (a_fieldAddrA rfl (hT rfl) rfl rfl (hT rfl) rfl) ?_
                  refine wS_set rfl rfl rfl (a_loadKids (by assumption) rfl rfl (hT rfl) rfl) ?_
                  refine wS_set rfl rfl rfl (a_move rfl rfl) ?_
                  refine wS_set rfl rfl rfl (n_add (b := 1) rfl rfl (by simp only [capN]; omega)) ?_
                  refine wS_set rfl rfl rfl (a_sliceFrom (a := i + 1) rfl rfl (hT rfl) rfl (hT rfl) rfl (by rw [rxRows_len]; omega)) ?_
                  refine wS_set rfl rfl rfl (a_appendOV (es0 := rxRows [der b k]) (es := (rxRows r.l).drop (i + 1)) (mt := true) (z := 6) rfl rfl rfl rfl (hT rfl) rfl (hT rfl) rfl rfl rfl rfl (by rw [rxRows_len]; rfl) (by rw [List.length_drop, rxRows_len]; simp only [big]; omega) rfl) ?_
                  refine wS_set rfl rfl rfl (a_callL rfl rfl rfl fn45 rfl (lent_ev hrows hcev)) ?_
                  refine wS_set rfl rfl rfl (a_bs1Rx hcw rfl (hT rfl) rfl (hT rfl) rfl rfl rfl rfl rfl) ?_
                  refine wS_set rfl rfl rfl (a_appendOO (es0 := rxRows outs) (es := rxRows [c]) (mt := true) (z := 6) rfl rfl rfl rfl (whole (by rw [rxRows_len]; exact Nat.le_refl _)) rfl (hT rfl) rfl (hT rfl) rfl rfl rfl rfl rfl (by rw [rxRows_len, rxRows_len]; simp only [big, List.length_singleton]; omega) rfl) ?_
                  refine wS_set rfl rfl rfl (a_assign rfl rfl) ?_
                  refine wO_nil ⟨rfl, by kernel_rfl, ?_⟩
                  refine wC_seq ?_
                  refine wC_reg ?_
                  refine wS_set rfl rfl rfl (a_loadRx (by assumption) rfl rfl (hT rfl) rfl rfl) ?_
                  refine wS_set rfl rfl rfl (a_call rfl rfl fn25 rfl rfl (hn ▸ ev25 (B := B) (by omega) k hkw)) ?_
                  refine wS_set rfl rfl rfl (a_un rfl rfl) ?_
                  refine wO_nil ?_
                  refine wC_cond (p := true) rfl (fun _ => ?_) (fun hc => absurd hc (by decide))
                  refine wC_exit ?_
                  exact ⟨_, by rw [hsh, rxRows_app]; exact .inr ⟨by rw [rxRows_one]; simp, _, by rw [List.length_append]; rfl, rfl⟩, pinned_mk rfl ⟨rfl, rfl, trivial⟩ ⟨rfl, trivial⟩⟩
            · obtain rfl : i = r.l.length := by omega
              rw [List.drop_eq_nil_of_le (Nat.le_refl _), derCat, List.append_nil] at hsh
              refine wC_seq ?_
              refine wC_reg ?_
              refine wS_set rfl rfl rfl (b_lss (p := false) rfl rfl (decide_eq_false (by omega))) ?_
              refine wO_nil ?_
              refine wC_seq ?_
              refine wC_cond (p := false) rfl (fun hc => absurd hc (by decide)) (fun _ => ?_)
              refine wC_exit ?_
              exact ⟨x, by rw [hsh]; exact hrow.keep rfl, pinned_mk rfl ⟨rfl, rfl, trivial⟩ ⟨rfl, trivial⟩⟩
          · obtain ⟨x, hrow, hi⟩ := hi
            replace hi := hi.form
            obtain ⟨g, h, rfl⟩ := hi
            simp only at hrow
            have hcll : (derCat b r.l).length ≤ B := by omega
            rcases hrow with ⟨rfl, hnil⟩ | ⟨hne, go, rfl, ho43⟩
            · have houts : derCat b r.l = [] := rxRows_nil_iff.1 hnil
              rw [houts] at hgw ⊢
              refine wC_seq ?_
              refine wC_reg ?_
              refine wS_set rfl rfl rfl (a_moveNil rfl (hT rfl) rfl (hT rfl)) ?_
              refine wS_set rfl rfl rfl (a_call rfl rfl fn46 rfl rfl (ev46N)) ?_
              refine wS_eff rfl rfl (a_storeRx (by assumption) rfl rfl rfl (by first | rfl | exact rxB_len (by assumption)) (hT rfl) rfl rfl) ?_
              refine wO_nil ?_
              refine wC_ret ?_
              exact end_rx hgw rfl rfl rfl (hT rfl) rfl rfl
            · refine wC_seq ?_
              refine wC_reg ?_
              refine wS_set rfl rfl rfl (a_move (y := .own 43 go 0 (rxRows (derCat b r.l)).length) rfl rfl) ?_
              refine wS_set rfl rfl rfl (a_callL rfl rfl ho43 fn46 rfl (lent_ev (whole (Nat.le_refl _)) (ev46L hB hcg hcll (hk4 h4)))) ?_
              refine wS_eff rfl rfl (a_storeRx (by assumption) rfl rfl rfl (by first | rfl | exact rxB_len (by assumption)) (hT rfl) rfl rfl) ?_
              refine wO_nil ?_
              refine wC_ret ?_
              exact end_rx hgw rfl rfl rfl (hT rfl) rfl rfl
        · rw [if_neg h4] at hgood hgw ⊢
          by_cases h5 : r.k = 5
          · rw [if_pos h5] at hgood hgw ⊢
            have hkid := hk (.inr (.inl h5))
            have hdg : ∀ x ∈ r.l, (der b x).good B := fun x hx => der_good h2 x (hg.kids x hx) (hkid x hx)
            have hag : ∀ x ∈ derAll b r.l, x.good B := by
              rw [derAll_map]
              intro x hx
              obtain ⟨y, hy, rfl⟩ := List.mem_map.1 hx
              exact hdg y hy
            have hal : (derAll b r.l).length ≤ B := by rw [derAll_map, List.length_map]; exact hlen
            refine wC_seq ?_
            refine wC_reg ?_
            refine wS_set rfl rfl rfl (a_boxRx (by assumption) rfl (hT rfl) rfl rfl rfl) ?_
            refine wS_set rfl rfl rfl (a_alloc (hT rfl) rfl rfl) ?_
            refine wO_nil ?_
            refine wC_seq ?_
            refine wC_seq ?_
            refine wC_reg ?_
            refine wS_set rfl rfl rfl (a_fieldAddrA rfl (hT rfl) rfl rfl (hT rfl) rfl) ?_
            refine wS_set rfl rfl rfl (a_loadK rfl rfl (hT rfl) rfl) ?_
            refine wO_nil ?_
            refine wC_block ?_
            refine wC_seq ?_
            refine wC_reg ?_
            refine wS_set rfl rfl rfl (i_eql (p := false) rfl rfl (decide_eq_false (by omega))) ?_
            refine wS_set rfl rfl rfl (a_assign rfl rfl) ?_
            refine wO_nil ?_
            refine wC_cond (p := false) rfl (fun hc => absurd hc (by decide)) (fun _ => ?_)
            refine wC_seq ?_
            refine wC_reg ?_
            refine wS_set rfl rfl rfl (i_eql (p := false) rfl rfl (decide_eq_false (by omega))) ?_
            refine wS_set rfl rfl rfl (a_assign rfl rfl) ?_
            refine wO_nil ?_
            refine wC_cond (p := false) rfl (fun hc => absurd hc (by decide)) (fun _ => ?_)
            refine wC_seq ?_
            refine wC_reg ?_
            refine wS_set rfl rfl rfl (i_eql (p := true) rfl rfl (decide_eq_true (by omega))) ?_
            refine wS_set rfl rfl rfl (a_assign rfl rfl) ?_
            refine wO_nil ?_
            refine wC_cond (p := true) rfl (fun _ => ?_) (fun hc => absurd hc (by decide))
            refine wC_seq ?_
            refine wC_reg ?_
            refine wS_set rfl rfl rfl (a_assignNil rfl (hT rfl) rfl (hT rfl)) ?_
            refine wO_nil ?_
            refine wC_seq ?_
            refine wC_seq ?_
            refine wC_reg ?_
            refine wS_set rfl rfl rfl (a_fieldAddrA rfl (hT rfl) rfl rfl (hT rfl) rfl) ?_
            refine wS_set rfl rfl rfl (a_loadKids (by assumption) rfl rfl (hT rfl) rfl) ?_
            refine wS_set rfl rfl rfl (a_lenK rfl rfl (hT rfl) rfl) ?_
            refine wS_set rfl rfl rfl (a_move rfl rfl) ?_
            refine wO_nil ?_
            refine wC_block ?_
            refine wC_loop (fun m ρ => ∃ (i : Nat) (x : X), i + m = r.l.length ∧ RowX 6 64 ρ.ob x (rxRows (derAll b (r.l.take i))) ∧
                PinSt 80 [(1, .v (byteV b)), (4, .addr 4 1 0), (8, x), (53, .v (.sl 6 (rxRows r.l))), (54, natX .i64 r.l.length), (55, natX .i64 i)] [(4, .box 1 rxZ)] ρ) (fun m ρ hi => ?_) r.l.length
              ⟨0, .nil 6, by omega, .inl ⟨rfl, by rw [List.take_zero, derAll, rxRows]⟩, pinned_mk rfl ⟨rfl, rfl, rfl, rfl, rfl, rfl, trivial⟩ ⟨rfl, trivial⟩⟩
            obtain ⟨i, x, hm, hrow, hi⟩ := hi
            replace hi := hi.form
            obtain ⟨g, h, rfl⟩ := hi
            simp only at hrow
            by_cases hlt : i < r.l.length
            · have hget : r.l[i]? = some (r.l[i]'hlt) := List.getElem?_eq_getElem hlt
              have hmem := List.getElem_mem hlt
              have hkg := hg.kids _ hmem
              have hkd := ih _ hmem hkg (hkid _ hmem)
              have hdw := (hdg _ hmem).wf
              have hkw := hkg.wf
              have htake : derAll b (r.l.take (i + 1)) = derAll b (r.l.take i) ++ [der b (r.l[i]'hlt)] := by
                rw [List.take_add_one, hget, derAll_map, derAll_map, List.map_append]; rfl
              have htl : (derAll b (r.l.take i)).length ≤ B := by rw [derAll_map, List.length_map, List.length_take]; omega
              generalize hkk : r.l[i]'hlt = k at hget hmem hkg hkd hdw hkw htake
              refine wC_seq ?_
              refine wC_reg ?_
              refine wS_set rfl rfl rfl (b_lss (p := true) rfl rfl (decide_eq_true (by omega))) ?_
              refine wO_nil ?_
              refine wC_seq ?_
              refine wC_cond (p := true) rfl (fun _ => ?_) (fun hc => absurd hc (by decide))
              refine wC_skip ?_
              refine wC_seq ?_
              refine wC_block ?_
              refine wC_seq ?_
              refine wC_reg ?_
              refine wS_set rfl rfl rfl (n_kid hget rfl rfl (hT rfl) rfl (hT rfl) rfl) ?_
              refine wS_set rfl rfl rfl (a_loadRxR (by assumption) rfl (hT rfl) rfl rfl) ?_
              refine wS_set rfl rfl rfl (a_alloc (hT rfl) rfl rfl) ?_
              refine wS_eff rfl rfl (a_storeRx (by assumption) rfl rfl rfl (by first | rfl | exact rxB_len (by assumption)) (hT rfl) rfl rfl) ?_
              refine wO_nil ?_
              refine wC_reg ?_
              refine wS_set rfl rfl rfl (a_moveS (hrow.sl.keep rfl) (hT rfl) rfl (hT rfl) rfl) ?_
              refine wS_set rfl rfl rfl (a_loadRx (by assumption) rfl rfl (hT rfl) rfl rfl) ?_
              refine wS_set rfl rfl rfl (a_move rfl rfl) ?_
              refine wS_set rfl rfl rfl (a_call rfl rfl fn26 rfl rfl (hkd)) ?_
              refine wS_set rfl rfl rfl (a_bs1Rx hdw rfl (hT rfl) rfl (hT rfl) rfl rfl rfl rfl rfl) ?_
              refine wS_appS (es := rxRows (derAll b (r.l.take i))) (es2 := rxRows [der b k]) (hrow.keep rfl) rfl rfl (by rw [List.drop_zero, List.take_of_length_le (by rw [rxRows_len]; exact Nat.le_refl _)]) rfl (hT rfl) rfl (hT rfl) rfl rfl rfl (by rw [rxRows_len, rxRows_len]; simp only [big, List.length_singleton]; omega) rfl (by rw [rxRows_one]; simp) rfl rfl (fun g64 rd64 => ?_)
              refine wS_set rfl rfl rfl (a_assign rfl rfl) ?_
              refine wO_nil ?_
              refine wC_reg ?_
              refine wS_set rfl rfl rfl (n_add (b := 1) rfl rfl (by simp only [capN]; omega)) ?_
              refine wS_set rfl rfl rfl (a_move rfl rfl) ?_
              refine wO_nil ?_
              exact ⟨m - 1, by omega, i + 1, .own 64 g64 0 (rxRows (derAll b (r.l.take i)) ++ rxRows [der b k]).length, by omega, by rw [htake, rxRows_app]; exact .inr ⟨by rw [rxRows_one]; simp, g64, rfl, rfl⟩, pinned_mk rfl ⟨rfl, rfl, rfl, rfl, rfl, rfl, trivial⟩ ⟨rfl, trivial⟩⟩
            · obtain rfl : i = r.l.length := by omega
              rw [List.take_length] at hrow
              rcases hrow with ⟨rfl, hnil⟩ | ⟨hne, go, rfl, ho64⟩
              · have houts : derAll b r.l = [] := rxRows_nil_iff.1 hnil
                rw [houts] at hgw ⊢
                refine wC_seq ?_
                refine wC_reg ?_
                refine wS_set rfl rfl rfl (b_lss (p := false) rfl rfl (decide_eq_false (by omega))) ?_
                refine wO_nil ?_
                refine wC_seq ?_
                refine wC_cond (p := false) rfl (fun hc => absurd hc (by decide)) (fun _ => ?_)
                refine wC_exit ?_
                refine wC_seq ?_
                refine wC_reg ?_
                refine wS_set rfl rfl rfl (a_moveNil rfl (hT rfl) rfl (hT rfl)) ?_
                refine wS_set rfl rfl rfl (a_call rfl rfl fn46 rfl rfl (ev46N)) ?_
                refine wS_eff rfl rfl (a_storeRx (by assumption) rfl rfl rfl (by first | rfl | exact rxB_len (by assumption)) (hT rfl) rfl rfl) ?_
                refine wO_nil ?_
                refine wC_ret ?_
                exact end_rx hgw rfl rfl rfl (hT rfl) rfl rfl
              · refine wC_seq ?_
                refine wC_reg ?_
                refine wS_set rfl rfl rfl (b_lss (p := false) rfl rfl (decide_eq_false (by omega))) ?_
                refine wO_nil ?_
                refine wC_seq ?_
                refine wC_cond (p := false) rfl (fun hc => absurd hc (by decide)) (fun _ => ?_)
                refine wC_exit ?_
                refine wC_seq ?_
                refine wC_reg ?_
                refine wS_set rfl rfl rfl (a_move (y := .own 64 go 0 (rxRows (derAll b r.l)).length) rfl rfl) ?_
                refine wS_set rfl rfl rfl (a_callL rfl rfl ho64 fn46 rfl (lent_ev (whole (Nat.le_refl _)) (ev46L hB hag hal (hk5 h5)))) ?_
                refine wS_eff rfl rfl (a_storeRx (by assumption) rfl rfl rfl (by first | rfl | exact rxB_len (by assumption)) (hT rfl) rfl rfl) ?_
                refine wO_nil ?_
                refine wC_ret ?_
                exact end_rx hgw rfl rfl rfl (hT rfl) rfl rfl
          · rw [if_neg h5] at hgood hgw ⊢
            by_cases h6 : r.k = 6
            · rw [if_pos h6] at hgood hgw ⊢
              have hkid := hk (.inr (.inr h6))
              cases hl : r.l with
              | nil => exact absurd hl (hg.star h6)
              | cons a l =>
                have hmem : a ∈ r.l := by rw [hl]; exact List.mem_cons_self
                have hget : r.l[0]? = some a := by rw [hl]; rfl
                have hkg := hg.kids a hmem
                have hkd := ih a hmem hkg (hkid a hmem)
                have hdw := (der_good h2 a hkg (hkid a hmem)).wf
                have hkw := hkg.wf
                rw [hl, derAll] at hgw
                rw [derAll]
                have hcat : ∀ y ∈ [der b a, r], y.good B := fun y hy => by
                  rcases List.mem_cons.1 hy with rfl | hy
                  · exact der_good h2 a hkg (hkid a hmem)
                  · rw [List.mem_singleton.1 hy]; exact hg
                have hcev := ev45 hB hcat h2
                refine wC_seq ?_
                refine wC_reg ?_
                refine wS_set rfl rfl rfl (a_boxRx (by assumption) rfl (hT rfl) rfl rfl rfl) ?_
                refine wS_set rfl rfl rfl (a_alloc (hT rfl) rfl rfl) ?_
                refine wO_nil ?_
                refine wC_seq ?_
                refine wC_seq ?_
                refine wC_reg ?_
                refine wS_set rfl rfl rfl (a_fieldAddrA rfl (hT rfl) rfl rfl (hT rfl) rfl) ?_
                refine wS_set rfl rfl rfl (a_loadK rfl rfl (hT rfl) rfl) ?_
                refine wO_nil ?_
                refine wC_block ?_
                refine wC_seq ?_
                refine wC_reg ?_
                refine wS_set rfl rfl rfl (i_eql (p := false) rfl rfl (decide_eq_false (by omega))) ?_
                refine wS_set rfl rfl rfl (a_assign rfl rfl) ?_
                refine wO_nil ?_
                refine wC_cond (p := false) rfl (fun hc => absurd hc (by decide)) (fun _ => ?_)
                refine wC_seq ?_
                refine wC_reg ?_
                refine wS_set rfl rfl rfl (i_eql (p := false) rfl rfl (decide_eq_false (by omega))) ?_
                refine wS_set rfl rfl rfl (a_assign rfl rfl) ?_
                refine wO_nil ?_
                refine wC_cond (p := false) rfl (fun hc => absurd hc (by decide)) (fun _ => ?_)
                refine wC_seq ?_
                refine wC_reg ?_
                refine wS_set rfl rfl rfl (i_eql (p := false) rfl rfl (decide_eq_false (by omega))) ?_
                refine wS_set rfl rfl rfl (a_assign rfl rfl) ?_
                refine wO_nil ?_
                refine wC_cond (p := false) rfl (fun hc => absurd hc (by decide)) (fun _ => ?_)
                refine wC_seq ?_
                refine wC_reg ?_
                refine wS_set rfl rfl rfl (i_eql (p := true) rfl rfl (decide_eq_true (by omega))) ?_
                refine wS_set rfl rfl rfl (a_assign rfl rfl) ?_
                refine wO_nil ?_
                refine wC_cond (p := true) rfl (fun _ => ?_) (fun hc => absurd hc (by decide))
                refine wC_seq ?_
                refine wC_regD (by kernel_rfl) ?_
                refine wS_set rfl rfl rfl (a_fieldAddrA rfl (hT rfl) rfl rfl (hT rfl) rfl) ?_
                refine wS_set rfl rfl rfl (a_loadKids (by assumption) rfl rfl (hT rfl) rfl) ?_
                refine wS_set rfl rfl rfl (n_kid (a := 0) hget rfl rfl (hT rfl) rfl (hT rfl) rfl) ?_
                refine wS_set rfl rfl rfl (a_loadRxR (by assumption) rfl (hT rfl) rfl rfl) ?_
                refine wS_set rfl rfl rfl (a_move rfl rfl) ?_
                refine wS_set rfl rfl rfl (a_call rfl rfl fn26 rfl rfl (hkd)) ?_
                refine wS_set rfl rfl rfl (a_loadRx (by assumption) rfl rfl (hT rfl) rfl rfl) ?_
                refine wS_set rfl rfl rfl (a_bs2Rx hdw hw rfl rfl (hT rfl) rfl (hT rfl) rfl rfl rfl rfl rfl) ?_
                refine wS_set rfl rfl rfl (a_callL rfl rfl rfl fn45 rfl (lent_ev (whole (by rw [rxRows_len]; exact Nat.le_refl _)) hcev)) ?_
                refine wS_eff rfl rfl (a_storeRx (by assumption) rfl rfl rfl (by first | rfl | exact rxB_len (by assumption)) (hT rfl) rfl rfl) ?_
                refine wO_nil ⟨rfl, by kernel_rfl, ?_⟩
                refine wC_ret ?_
                exact end_rx hgw rfl rfl rfl (hT rfl) rfl rfl
            · rw [if_neg h6]
              refine wC_seq ?_
              refine wC_reg ?_
              refine wS_set rfl rfl rfl (a_boxRx (by assumption) rfl (hT rfl) rfl rfl rfl) ?_
              refine wS_set rfl rfl rfl (a_alloc (hT rfl) rfl rfl) ?_
              refine wO_nil ?_
              refine wC_seq ?_
              refine wC_seq ?_
              refine wC_reg ?_
              refine wS_set rfl rfl rfl (a_fieldAddrA rfl (hT rfl) rfl rfl (hT rfl) rfl) ?_
              refine wS_set rfl rfl rfl (a_loadK rfl rfl (hT rfl) rfl) ?_
              refine wO_nil ?_
              refine wC_block ?_
              refine wC_seq ?_
              refine wC_reg ?_
              refine wS_set rfl rfl rfl (i_eql (p := false) rfl rfl (decide_eq_false (by omega))) ?_
              refine wS_set rfl rfl rfl (a_assign rfl rfl) ?_
              refine wO_nil ?_
              refine wC_cond (p := false) rfl (fun hc => absurd hc (by decide)) (fun _ => ?_)
              refine wC_seq ?_
              refine wC_reg ?_
              refine wS_set rfl rfl rfl (i_eql (p := false) rfl rfl (decide_eq_false (by omega))) ?_
              refine wS_set rfl rfl rfl (a_assign rfl rfl) ?_
              refine wO_nil ?_
              refine wC_cond (p := false) rfl (fun hc => absurd hc (by decide)) (fun _ => ?_)
              refine wC_seq ?_
              refine wC_reg ?_
              refine wS_set rfl rfl rfl (i_eql (p := false) rfl rfl (decide_eq_false (by omega))) ?_
              refine wS_set rfl rfl rfl (a_assign rfl rfl) ?_
              refine wO_nil ?_
              refine wC_cond (p := false) rfl (fun hc => absurd hc (by decide)) (fun _ => ?_)
              refine wC_seq ?_
              refine wC_reg ?_
              refine wS_set rfl rfl rfl (i_eql (p := false) rfl rfl (decide_eq_false (by omega))) ?_
              refine wS_set rfl rfl rfl (a_assign rfl rfl) ?_
              refine wO_nil ?_
              refine wC_cond (p := false) rfl (fun hc => absurd hc (by decide)) (fun _ => ?_)
              refine wC_skip ?_
              refine wC_seq ?_
              refine wC_reg ?_
              refine wS_set rfl rfl rfl (a_build (ys := [.lit (.int .i64 1)]) rfl (hT rfl) rfl rfl rfl rfl) ?_
              refine wS_eff rfl rfl (a_storeRx (r := noneR) (B := B) hnn.wf rfl rfl rfl rfl (hT rfl) rfl rfl) ?_
              refine wO_nil ?_
              refine wC_ret ?_
              exact end_rx hnn.wf rfl rfl rfl (hT rfl) rfl rfl

end Go.Proofs.YtjppkpjlbbkdnaaDoor
