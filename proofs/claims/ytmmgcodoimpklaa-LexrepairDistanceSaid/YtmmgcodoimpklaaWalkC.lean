/-
  What is proved here: the distance of the document, computed from a full table, for two strings of at most 1000 bytes; the law on it over the evaluator. Conditions: those that stand at each theorem.
-/
import Derived.Test.YtmmgcodoimpklaaWalkB

namespace Go.Proofs.Ytmmgcodoimpklaa
open Go.Dv

noncomputable def body8 : Code := Try.f8.body.getD .skip
noncomputable def codeIn8 : Code := nav body8 [1, 1, 0, 1, 0, 0, 1, 0, 0, 1, 1, 0, 0, 1, 0, 0, 1]

set_option maxRecDepth 100000 in
theorem round0 {a b : ByteArray} (hla : a.size ≤ 1000) (hlb : b.size ≤ 1000) {i j : Nat} (hi : i < a.size) (hj : j < b.size) {D : List X} {R C : List Nat} {O2 : Ob} {g0 g1 g2 : Nat}
    (hD0 : D[i + 1]? = some (.own 23 g0 0 (b.size + 1))) (hD1 : D[i]? = some (.own 24 g1 0 (b.size + 1)))
    (hA : 1 ≤ i → ∃ A, O2 = .row g2 true 1 (rowI A) ∧ isRow (b.size + 1) A (osa (at8 a) (at8 b) (i - 1)) (b.size + 1) ∧ D[i - 1]? = some (.own 22 g2 0 (b.size + 1)))
    (hR : isRow (b.size + 1) R (osa (at8 a) (at8 b) i) (b.size + 1)) (hC : isRow (b.size + 1) C (osa (at8 a) (at8 b) (i + 1)) (j + 1)) {Q : Ex → St → Prop} {cd : Code} {ρ0 : St}
    (hρ0 : PinSt 153 [(0, .v (.lit (.string a))), (1, .v (.lit (.string b))), (5, .bsl 12 1 (a.size + 1)), (6, natX .i64 (i + 1)), (7, natX .i64 (j + 1))] [(12, .box 1 D), (23, .row g0 true 1 (rowI C)), (24, .row g1 true 1 (rowI R)), (22, O2)] ρ0) (hcd : cd = codeIn8)
    (hq : ∀ C' ρ, isRow (b.size + 1) C' (osa (at8 a) (at8 b) (i + 1)) (j + 1 + 1) → PinSt 153 [(0, .v (.lit (.string a))), (1, .v (.lit (.string b))), (5, .bsl 12 1 (a.size + 1)), (6, natX .i64 (i + 1)), (7, natX .i64 (j + 1))] [(12, .box 1 D), (23, .row g0 true 1 (rowI C')), (24, .row g1 true 1 (rowI R)), (22, O2)] ρ → Q .normal ρ) :
    wpC tab ext cd ρ0 Q := by
  subst hcd
  replace hρ0 := hρ0.form
  obtain ⟨g, h, rfl⟩ := hρ0
  have hCl := hC.1
  have hRl := hR.1
  have l1 := osa_le (a := at8 a) (b := at8 b) (i + j) i j (Nat.le_refl _)
  have l2 := osa_le (a := at8 a) (b := at8 b) (i + j + 1) i (j + 1) (by omega)
  have l3 := osa_le (a := at8 a) (b := at8 b) (i + j + 1) (i + 1) j (by omega)
  have l4 := osa_le (a := at8 a) (b := at8 b) (i + j) (i - 1) (j - 1) (by omega)
  have r1 : R.getD j 0 = osa (at8 a) (at8 b) i j := hR.2 j (by omega)
  have r2 : R.getD (j + 1) 0 = osa (at8 a) (at8 b) i (j + 1) := hR.2 (j + 1) (by omega)
  have r3 : C.getD j 0 = osa (at8 a) (at8 b) (i + 1) j := hC.2 j (by omega)
  have hs := osa_s (a := at8 a) (b := at8 b) i j
  refine wC_seq ?_
  refine wC_reg ?_
  refine wS_set rfl rfl rfl (a_assign rfl rfl) ?_
  refine wO_nil ?_
  refine wC_cut (fun ρ => PinSt 153 [(0, .v (.lit (.string a))), (1, .v (.lit (.string b))), (5, .bsl 12 1 (a.size + 1)), (6, natX .i64 (i + 1)), (7, natX .i64 (j + 1)), (8, natX .i64 (if at8 a i = at8 b j then 0 else 1))] [(12, .box 1 D), (23, .row g0 true 1 (rowI C)), (24, .row g1 true 1 (rowI R)), (22, O2)] ρ) ?_ fun ρ' hI => ?_
  · refine wC_seq ?_
    refine wC_regD (by kernel_rfl) ?_
    refine wS_set rfl rfl rfl (a_move rfl rfl) ?_
    refine wS_set rfl rfl rfl (a_move rfl rfl) ?_
    refine wS_set rfl rfl rfl (n_sub (a := i + 1) (b := 1) rfl rfl (by omega) (by simp only [capN]; omega)) ?_
    refine wS_set rfl rfl rfl (n_byteAt (a := i) (by omega) rfl rfl (hT rfl) rfl) ?_
    refine wS_set rfl rfl rfl (a_move rfl rfl) ?_
    refine wS_set rfl rfl rfl (a_move rfl rfl) ?_
    refine wS_set rfl rfl rfl (n_sub (a := j + 1) (b := 1) rfl rfl (by omega) (by simp only [capN]; omega)) ?_
    refine wS_set rfl rfl rfl (n_byteAt (a := j) (by omega) rfl rfl (hT rfl) rfl) ?_
    refine wS_set rfl rfl rfl (n_eql (a := at8 a i) (b := at8 b j) rfl rfl) ?_
    refine wO_nil ⟨rfl, by kernel_rfl, ?_⟩
    refine wC_cond rfl (fun hc => ?_) (fun hc => ?_)
    · have he : at8 a i = at8 b j := of_decide_eq_true hc
      refine wC_reg ?_
      refine wS_set rfl rfl rfl (a_assign rfl rfl) ?_
      refine wO_nil ?_
      exact ⟨rfl, pinned_mk rfl ⟨rfl, rfl, rfl, rfl, rfl, by rw [if_pos he]; rfl, trivial⟩ ⟨rfl, rfl, rfl, rfl, trivial⟩⟩
    · have hne : ¬ at8 a i = at8 b j := of_decide_eq_false hc
      refine wC_skip ?_
      exact ⟨rfl, pinned_mk rfl ⟨rfl, rfl, rfl, rfl, rfl, by rw [if_neg hne]; rfl, trivial⟩ ⟨rfl, rfl, rfl, rfl, trivial⟩⟩
  clear g h
  replace hI := hI.form
  obtain ⟨g, h, rfl⟩ := hI
  have hcc : (if at8 a i = at8 b j then 0 else 1) ≤ 1 := by split <;> omega
  generalize hcdef : (if at8 a i = at8 b j then 0 else 1) = c at hs hcc ⊢
  refine wC_seq ?_
  refine wC_regD (by kernel_rfl) ?_
  refine wS_set rfl rfl rfl (a_move rfl rfl) ?_
  refine wS_set rfl rfl rfl (a_move rfl rfl) ?_
  refine wS_set rfl rfl rfl (n_indexAddrB (a := i + 1) rfl rfl (hT rfl) rfl (hT rfl) rfl (by omega)) ?_
  refine wS_set rfl rfl rfl (a_load1 rfl rfl (hT rfl) rfl hD0) ?_
  refine wS_set rfl rfl rfl (a_move rfl rfl) ?_
  refine wS_set rfl rfl rfl (a_move rfl rfl) ?_
  refine wS_set rfl rfl rfl (a_move rfl rfl) ?_
  refine wS_set rfl rfl rfl (n_sub (a := i + 1) (b := 1) rfl rfl (by omega) (by simp only [capN]; omega)) ?_
  refine wS_set rfl rfl rfl (n_indexAddrB (a := i) rfl rfl (hT rfl) rfl (hT rfl) rfl (by omega)) ?_
  refine wS_set rfl rfl rfl (a_load1 rfl rfl (hT rfl) rfl hD1) ?_
  refine wS_set rfl rfl rfl (a_move rfl rfl) ?_
  refine wS_set rfl rfl rfl (n_indexAddrP (a := j + 1) rfl rfl rfl (hT rfl) rfl (hT rfl) rfl (by omega)) ?_
  refine wS_set rfl rfl rfl (a_loadI (by omega) rfl rfl (hT rfl) rfl) ?_
  refine wS_set rfl rfl rfl (n_add (a := R.getD (j + 1) 0) (b := 1) rfl rfl (by simp only [capN]; omega)) ?_
  refine wS_set rfl rfl rfl (a_move rfl rfl) ?_
  refine wS_set rfl rfl rfl (a_move rfl rfl) ?_
  refine wS_set rfl rfl rfl (n_indexAddrB (a := i + 1) rfl rfl (hT rfl) rfl (hT rfl) rfl (by omega)) ?_
  refine wS_set rfl rfl rfl (a_load1 rfl rfl (hT rfl) rfl hD0) ?_
  refine wS_set rfl rfl rfl (a_move rfl rfl) ?_
  refine wS_set rfl rfl rfl (n_sub (a := j + 1) (b := 1) rfl rfl (by omega) (by simp only [capN]; omega)) ?_
  refine wS_set rfl rfl rfl (n_indexAddrP (a := j) rfl rfl rfl (hT rfl) rfl (hT rfl) rfl (by omega)) ?_
  refine wS_set rfl rfl rfl (a_loadI (by omega) rfl rfl (hT rfl) rfl) ?_
  refine wS_set rfl rfl rfl (n_add (a := C.getD j 0) (b := 1) rfl rfl (by simp only [capN]; omega)) ?_
  refine wS_set rfl rfl rfl (a_move rfl rfl) ?_
  refine wS_set rfl rfl rfl (a_move rfl rfl) ?_
  refine wS_set rfl rfl rfl (n_sub (a := i + 1) (b := 1) rfl rfl (by omega) (by simp only [capN]; omega)) ?_
  refine wS_set rfl rfl rfl (n_indexAddrB (a := i) rfl rfl (hT rfl) rfl (hT rfl) rfl (by omega)) ?_
  refine wS_set rfl rfl rfl (a_load1 rfl rfl (hT rfl) rfl hD1) ?_
  refine wS_set rfl rfl rfl (a_move rfl rfl) ?_
  refine wS_set rfl rfl rfl (n_sub (a := j + 1) (b := 1) rfl rfl (by omega) (by simp only [capN]; omega)) ?_
  refine wS_set rfl rfl rfl (n_indexAddrP (a := j) rfl rfl rfl (hT rfl) rfl (hT rfl) rfl (by omega)) ?_
  refine wS_set rfl rfl rfl (a_loadI (by omega) rfl rfl (hT rfl) rfl) ?_
  refine wS_set rfl rfl rfl (a_move rfl rfl) ?_
  refine wS_set rfl rfl rfl (n_add (a := R.getD j 0) (b := c) rfl rfl (by simp only [capN]; omega)) ?_
  refine wS_set rfl rfl rfl (n_min3 (a := R.getD (j + 1) 0 + 1) (b := C.getD j 0 + 1) (c := R.getD j 0 + c) rfl rfl rfl) ?_
  refine wS_set rfl rfl rfl (n_indexAddrP (a := j + 1) rfl rfl rfl (hT rfl) rfl (hT rfl) rfl (by omega)) ?_
  refine wS_eff rfl rfl (a_storeR (v := min (min (R.getD (j + 1) 0 + 1) (C.getD j 0 + 1)) (R.getD j 0 + c)) (by omega) rfl rfl rfl (hT rfl) rfl rfl) ?_
  refine wO_nil ⟨rfl, by kernel_rfl, ?_⟩
  rw [← r1, ← r2, ← r3] at hs
  by_cases h1 : 1 ≤ i
  case neg =>
    have hsw : ¬ (1 ≤ i ∧ 1 ≤ j ∧ at8 a i = at8 b (j - 1) ∧ at8 a (i - 1) = at8 b j) := fun x => h1 x.1
    rw [if_neg hsw] at hs
    refine wC_seq ?_
    refine wC_regD (by kernel_rfl) ?_
    refine wS_set rfl rfl rfl (a_move rfl rfl) ?_
    refine wS_set rfl rfl rfl (n_gtrF (a := i + 1) (b := 1) (by omega) rfl rfl) ?_
    refine wS_set rfl rfl rfl (a_move rfl rfl) ?_
    refine wS_skip rfl rfl rfl ?_
    refine wS_skip rfl rfl rfl ?_
    refine wS_set rfl rfl rfl (a_pickF rfl rfl) ?_
    refine wS_set rfl rfl rfl (a_move rfl rfl) ?_
    refine wS_skip rfl rfl rfl ?_
    refine wS_skip rfl rfl rfl ?_
    refine wS_skip rfl rfl rfl ?_
    refine wS_skip rfl rfl rfl ?_
    refine wS_skip rfl rfl rfl ?_
    refine wS_skip rfl rfl rfl ?_
    refine wS_skip rfl rfl rfl ?_
    refine wS_skip rfl rfl rfl ?_
    refine wS_skip rfl rfl rfl ?_
    refine wS_set rfl rfl rfl (a_pickF rfl rfl) ?_
    refine wS_set rfl rfl rfl (a_move rfl rfl) ?_
    refine wS_skip rfl rfl rfl ?_
    refine wS_skip rfl rfl rfl ?_
    refine wS_skip rfl rfl rfl ?_
    refine wS_skip rfl rfl rfl ?_
    refine wS_skip rfl rfl rfl ?_
    refine wS_skip rfl rfl rfl ?_
    refine wS_skip rfl rfl rfl ?_
    refine wS_skip rfl rfl rfl ?_
    refine wS_skip rfl rfl rfl ?_
    refine wS_set rfl rfl rfl (a_pickF rfl rfl) ?_
    refine wO_nil ⟨rfl, by kernel_rfl, ?_⟩
    refine wC_cond (p := false) rfl (fun hc => absurd hc (by decide)) (fun _ => ?_)
    refine wC_skip ?_
    exact hq _ _ (isRow_set hC (by omega) (by rw [hs]; omega)) (pinned_mk rfl ⟨rfl, rfl, rfl, rfl, rfl, trivial⟩ ⟨rfl, rfl, rfl, rfl, trivial⟩)
  by_cases h2 : 1 ≤ j
  case neg =>
    have hsw : ¬ (1 ≤ i ∧ 1 ≤ j ∧ at8 a i = at8 b (j - 1) ∧ at8 a (i - 1) = at8 b j) := fun x => h2 x.2.1
    rw [if_neg hsw] at hs
    refine wC_seq ?_
    refine wC_regD (by kernel_rfl) ?_
    refine wS_set rfl rfl rfl (a_move rfl rfl) ?_
    refine wS_set rfl rfl rfl (n_gtrT (a := i + 1) (b := 1) (by omega) rfl rfl) ?_
    refine wS_set rfl rfl rfl (a_move rfl rfl) ?_
    refine wS_set rfl rfl rfl (a_move rfl rfl) ?_
    refine wS_set rfl rfl rfl (n_gtrF (a := j + 1) (b := 1) (by omega) rfl rfl) ?_
    refine wS_set rfl rfl rfl (a_pickT rfl rfl) ?_
    refine wS_set rfl rfl rfl (a_move rfl rfl) ?_
    refine wS_skip rfl rfl rfl ?_
    refine wS_skip rfl rfl rfl ?_
    refine wS_skip rfl rfl rfl ?_
    refine wS_skip rfl rfl rfl ?_
    refine wS_skip rfl rfl rfl ?_
    refine wS_skip rfl rfl rfl ?_
    refine wS_skip rfl rfl rfl ?_
    refine wS_skip rfl rfl rfl ?_
    refine wS_skip rfl rfl rfl ?_
    refine wS_set rfl rfl rfl (a_pickF rfl rfl) ?_
    refine wS_set rfl rfl rfl (a_move rfl rfl) ?_
    refine wS_skip rfl rfl rfl ?_
    refine wS_skip rfl rfl rfl ?_
    refine wS_skip rfl rfl rfl ?_
    refine wS_skip rfl rfl rfl ?_
    refine wS_skip rfl rfl rfl ?_
    refine wS_skip rfl rfl rfl ?_
    refine wS_skip rfl rfl rfl ?_
    refine wS_skip rfl rfl rfl ?_
    refine wS_skip rfl rfl rfl ?_
    refine wS_set rfl rfl rfl (a_pickF rfl rfl) ?_
    refine wO_nil ⟨rfl, by kernel_rfl, ?_⟩
    refine wC_cond (p := false) rfl (fun hc => absurd hc (by decide)) (fun _ => ?_)
    refine wC_skip ?_
    exact hq _ _ (isRow_set hC (by omega) (by rw [hs]; omega)) (pinned_mk rfl ⟨rfl, rfl, rfl, rfl, rfl, trivial⟩ ⟨rfl, rfl, rfl, rfl, trivial⟩)
  by_cases h3 : at8 a i = at8 b (j - 1)
  case neg =>
    have hsw : ¬ (1 ≤ i ∧ 1 ≤ j ∧ at8 a i = at8 b (j - 1) ∧ at8 a (i - 1) = at8 b j) := fun x => h3 x.2.2.1
    rw [if_neg hsw] at hs
    refine wC_seq ?_
    refine wC_regD (by kernel_rfl) ?_
    refine wS_set rfl rfl rfl (a_move rfl rfl) ?_
    refine wS_set rfl rfl rfl (n_gtrT (a := i + 1) (b := 1) (by omega) rfl rfl) ?_
    refine wS_set rfl rfl rfl (a_move rfl rfl) ?_
    refine wS_set rfl rfl rfl (a_move rfl rfl) ?_
    refine wS_set rfl rfl rfl (n_gtrT (a := j + 1) (b := 1) (by omega) rfl rfl) ?_
    refine wS_set rfl rfl rfl (a_pickT rfl rfl) ?_
    refine wS_set rfl rfl rfl (a_move rfl rfl) ?_
    refine wS_set rfl rfl rfl (a_move rfl rfl) ?_
    refine wS_set rfl rfl rfl (a_move rfl rfl) ?_
    refine wS_set rfl rfl rfl (n_sub (a := i + 1) (b := 1) rfl rfl (by omega) (by simp only [capN]; omega)) ?_
    refine wS_set rfl rfl rfl (n_byteAt (a := i) (by omega) rfl rfl (hT rfl) rfl) ?_
    refine wS_set rfl rfl rfl (a_move rfl rfl) ?_
    refine wS_set rfl rfl rfl (a_move rfl rfl) ?_
    refine wS_set rfl rfl rfl (n_sub (a := j + 1) (b := 2) rfl rfl (by omega) (by simp only [capN]; omega)) ?_
    refine wS_set rfl rfl rfl (n_byteAt (a := j - 1) (by omega) rfl rfl (hT rfl) rfl) ?_
    refine wS_set rfl rfl rfl (n_eqlF (a := at8 a i) (b := at8 b (j - 1)) h3 rfl rfl) ?_
    refine wS_set rfl rfl rfl (a_pickT rfl rfl) ?_
    refine wS_set rfl rfl rfl (a_move rfl rfl) ?_
    refine wS_skip rfl rfl rfl ?_
    refine wS_skip rfl rfl rfl ?_
    refine wS_skip rfl rfl rfl ?_
    refine wS_skip rfl rfl rfl ?_
    refine wS_skip rfl rfl rfl ?_
    refine wS_skip rfl rfl rfl ?_
    refine wS_skip rfl rfl rfl ?_
    refine wS_skip rfl rfl rfl ?_
    refine wS_skip rfl rfl rfl ?_
    refine wS_set rfl rfl rfl (a_pickF rfl rfl) ?_
    refine wO_nil ⟨rfl, by kernel_rfl, ?_⟩
    refine wC_cond (p := false) rfl (fun hc => absurd hc (by decide)) (fun _ => ?_)
    refine wC_skip ?_
    exact hq _ _ (isRow_set hC (by omega) (by rw [hs]; omega)) (pinned_mk rfl ⟨rfl, rfl, rfl, rfl, rfl, trivial⟩ ⟨rfl, rfl, rfl, rfl, trivial⟩)
  by_cases h4 : at8 a (i - 1) = at8 b j
  case neg =>
    have hsw : ¬ (1 ≤ i ∧ 1 ≤ j ∧ at8 a i = at8 b (j - 1) ∧ at8 a (i - 1) = at8 b j) := fun x => h4 x.2.2.2
    rw [if_neg hsw] at hs
    refine wC_seq ?_
    refine wC_regD (by kernel_rfl) ?_
    refine wS_set rfl rfl rfl (a_move rfl rfl) ?_
    refine wS_set rfl rfl rfl (n_gtrT (a := i + 1) (b := 1) (by omega) rfl rfl) ?_
    refine wS_set rfl rfl rfl (a_move rfl rfl) ?_
    refine wS_set rfl rfl rfl (a_move rfl rfl) ?_
    refine wS_set rfl rfl rfl (n_gtrT (a := j + 1) (b := 1) (by omega) rfl rfl) ?_
    refine wS_set rfl rfl rfl (a_pickT rfl rfl) ?_
    refine wS_set rfl rfl rfl (a_move rfl rfl) ?_
    refine wS_set rfl rfl rfl (a_move rfl rfl) ?_
    refine wS_set rfl rfl rfl (a_move rfl rfl) ?_
    refine wS_set rfl rfl rfl (n_sub (a := i + 1) (b := 1) rfl rfl (by omega) (by simp only [capN]; omega)) ?_
    refine wS_set rfl rfl rfl (n_byteAt (a := i) (by omega) rfl rfl (hT rfl) rfl) ?_
    refine wS_set rfl rfl rfl (a_move rfl rfl) ?_
    refine wS_set rfl rfl rfl (a_move rfl rfl) ?_
    refine wS_set rfl rfl rfl (n_sub (a := j + 1) (b := 2) rfl rfl (by omega) (by simp only [capN]; omega)) ?_
    refine wS_set rfl rfl rfl (n_byteAt (a := j - 1) (by omega) rfl rfl (hT rfl) rfl) ?_
    refine wS_set rfl rfl rfl (n_eqlT (a := at8 a i) (b := at8 b (j - 1)) h3 rfl rfl) ?_
    refine wS_set rfl rfl rfl (a_pickT rfl rfl) ?_
    refine wS_set rfl rfl rfl (a_move rfl rfl) ?_
    refine wS_set rfl rfl rfl (a_move rfl rfl) ?_
    refine wS_set rfl rfl rfl (a_move rfl rfl) ?_
    refine wS_set rfl rfl rfl (n_sub (a := i + 1) (b := 2) rfl rfl (by omega) (by simp only [capN]; omega)) ?_
    refine wS_set rfl rfl rfl (n_byteAt (a := i - 1) (by omega) rfl rfl (hT rfl) rfl) ?_
    refine wS_set rfl rfl rfl (a_move rfl rfl) ?_
    refine wS_set rfl rfl rfl (a_move rfl rfl) ?_
    refine wS_set rfl rfl rfl (n_sub (a := j + 1) (b := 1) rfl rfl (by omega) (by simp only [capN]; omega)) ?_
    refine wS_set rfl rfl rfl (n_byteAt (a := j) (by omega) rfl rfl (hT rfl) rfl) ?_
    refine wS_set rfl rfl rfl (n_eqlF (a := at8 a (i - 1)) (b := at8 b j) h4 rfl rfl) ?_
    refine wS_set rfl rfl rfl (a_pickT rfl rfl) ?_
    refine wO_nil ⟨rfl, by kernel_rfl, ?_⟩
    refine wC_cond (p := false) rfl (fun hc => absurd hc (by decide)) (fun _ => ?_)
    refine wC_skip ?_
    exact hq _ _ (isRow_set hC (by omega) (by rw [hs]; omega)) (pinned_mk rfl ⟨rfl, rfl, rfl, rfl, rfl, trivial⟩ ⟨rfl, rfl, rfl, rfl, trivial⟩)
  rw [if_pos ⟨h1, h2, h3, h4⟩] at hs
  obtain ⟨A, rfl, hA, hD2⟩ := hA h1
  have hAl := hA.1
  have r4 : A.getD (j - 1) 0 = osa (at8 a) (at8 b) (i - 1) (j - 1) := hA.2 (j - 1) (by omega)
  rw [← r4] at hs
  generalize hm : min (min (R.getD (j + 1) 0 + 1) (C.getD j 0 + 1)) (R.getD j 0 + c) = m at hs ⊢
  have e1 : (C.set (j + 1) m).length = b.size + 1 := by rw [List.length_set]; exact hCl
  have e2 : (C.set (j + 1) m).getD (j + 1) 0 = m := getD_set_self (by omega)
  refine wC_seq ?_
  refine wC_regD (by kernel_rfl) ?_
  refine wS_set rfl rfl rfl (a_move rfl rfl) ?_
  refine wS_set rfl rfl rfl (n_gtrT (a := i + 1) (b := 1) (by omega) rfl rfl) ?_
  refine wS_set rfl rfl rfl (a_move rfl rfl) ?_
  refine wS_set rfl rfl rfl (a_move rfl rfl) ?_
  refine wS_set rfl rfl rfl (n_gtrT (a := j + 1) (b := 1) (by omega) rfl rfl) ?_
  refine wS_set rfl rfl rfl (a_pickT rfl rfl) ?_
  refine wS_set rfl rfl rfl (a_move rfl rfl) ?_
  refine wS_set rfl rfl rfl (a_move rfl rfl) ?_
  refine wS_set rfl rfl rfl (a_move rfl rfl) ?_
  refine wS_set rfl rfl rfl (n_sub (a := i + 1) (b := 1) rfl rfl (by omega) (by simp only [capN]; omega)) ?_
  refine wS_set rfl rfl rfl (n_byteAt (a := i) (by omega) rfl rfl (hT rfl) rfl) ?_
  refine wS_set rfl rfl rfl (a_move rfl rfl) ?_
  refine wS_set rfl rfl rfl (a_move rfl rfl) ?_
  refine wS_set rfl rfl rfl (n_sub (a := j + 1) (b := 2) rfl rfl (by omega) (by simp only [capN]; omega)) ?_
  refine wS_set rfl rfl rfl (n_byteAt (a := j - 1) (by omega) rfl rfl (hT rfl) rfl) ?_
  refine wS_set rfl rfl rfl (n_eqlT (a := at8 a i) (b := at8 b (j - 1)) h3 rfl rfl) ?_
  refine wS_set rfl rfl rfl (a_pickT rfl rfl) ?_
  refine wS_set rfl rfl rfl (a_move rfl rfl) ?_
  refine wS_set rfl rfl rfl (a_move rfl rfl) ?_
  refine wS_set rfl rfl rfl (a_move rfl rfl) ?_
  refine wS_set rfl rfl rfl (n_sub (a := i + 1) (b := 2) rfl rfl (by omega) (by simp only [capN]; omega)) ?_
  refine wS_set rfl rfl rfl (n_byteAt (a := i - 1) (by omega) rfl rfl (hT rfl) rfl) ?_
  refine wS_set rfl rfl rfl (a_move rfl rfl) ?_
  refine wS_set rfl rfl rfl (a_move rfl rfl) ?_
  refine wS_set rfl rfl rfl (n_sub (a := j + 1) (b := 1) rfl rfl (by omega) (by simp only [capN]; omega)) ?_
  refine wS_set rfl rfl rfl (n_byteAt (a := j) (by omega) rfl rfl (hT rfl) rfl) ?_
  refine wS_set rfl rfl rfl (n_eqlT (a := at8 a (i - 1)) (b := at8 b j) h4 rfl rfl) ?_
  refine wS_set rfl rfl rfl (a_pickT rfl rfl) ?_
  refine wO_nil ⟨rfl, by kernel_rfl, ?_⟩
  refine wC_cond (p := true) rfl (fun _ => ?_) (fun hc => absurd hc (by decide))
  refine wC_regD (by kernel_rfl) ?_
  refine wS_set rfl rfl rfl (a_move rfl rfl) ?_
  refine wS_set rfl rfl rfl (a_move rfl rfl) ?_
  refine wS_set rfl rfl rfl (n_indexAddrB (a := i + 1) rfl rfl (hT rfl) rfl (hT rfl) rfl (by omega)) ?_
  refine wS_set rfl rfl rfl (a_load1 rfl rfl (hT rfl) rfl hD0) ?_
  refine wS_set rfl rfl rfl (a_move rfl rfl) ?_
  refine wS_set rfl rfl rfl (a_move rfl rfl) ?_
  refine wS_set rfl rfl rfl (a_move rfl rfl) ?_
  refine wS_set rfl rfl rfl (n_indexAddrB (a := i + 1) rfl rfl (hT rfl) rfl (hT rfl) rfl (by omega)) ?_
  refine wS_set rfl rfl rfl (a_load1 rfl rfl (hT rfl) rfl hD0) ?_
  refine wS_set rfl rfl rfl (a_move rfl rfl) ?_
  refine wS_set rfl rfl rfl (n_indexAddrP (a := j + 1) rfl rfl rfl (hT rfl) rfl (hT rfl) rfl (by omega)) ?_
  refine wS_set rfl rfl rfl (a_loadI (by omega) rfl rfl (hT rfl) rfl) ?_
  refine wS_set rfl rfl rfl (a_move rfl rfl) ?_
  refine wS_set rfl rfl rfl (a_move rfl rfl) ?_
  refine wS_set rfl rfl rfl (n_sub (a := i + 1) (b := 2) rfl rfl (by omega) (by simp only [capN]; omega)) ?_
  refine wS_set rfl rfl rfl (n_indexAddrB (a := i - 1) rfl rfl (hT rfl) rfl (hT rfl) rfl (by omega)) ?_
  refine wS_set rfl rfl rfl (a_load1 rfl rfl (hT rfl) rfl hD2) ?_
  refine wS_set rfl rfl rfl (a_move rfl rfl) ?_
  refine wS_set rfl rfl rfl (n_sub (a := j + 1) (b := 2) rfl rfl (by omega) (by simp only [capN]; omega)) ?_
  refine wS_set rfl rfl rfl (n_indexAddrP (a := j - 1) rfl rfl rfl (hT rfl) rfl (hT rfl) rfl (by omega)) ?_
  refine wS_set rfl rfl rfl (a_loadI (by omega) rfl rfl (hT rfl) rfl) ?_
  refine wS_set rfl rfl rfl (n_add (a := A.getD (j - 1) 0) (b := 1) rfl rfl (by simp only [capN]; omega)) ?_
  refine wS_set rfl rfl rfl (n_min2 (a := (C.set (j + 1) m).getD (j + 1) 0) (b := A.getD (j - 1) 0 + 1) rfl rfl) ?_
  refine wS_set rfl rfl rfl (n_indexAddrP (a := j + 1) rfl rfl rfl (hT rfl) rfl (hT rfl) rfl (by omega)) ?_
  refine wS_eff rfl rfl (a_storeR (v := min ((C.set (j + 1) m).getD (j + 1) 0) (A.getD (j - 1) 0 + 1)) (by omega) rfl rfl rfl (hT rfl) rfl rfl) ?_
  refine wO_nil ⟨rfl, by kernel_rfl, ?_⟩
  refine hq _ _ ?_ (pinned_mk rfl ⟨rfl, rfl, rfl, rfl, rfl, trivial⟩ ⟨rfl, rfl, rfl, rfl, trivial⟩)
  rw [e2, List.set_set]
  exact isRow_set hC (by omega) (by rw [hs]; omega)

set_option maxRecDepth 100000 in
theorem round1 {a b : ByteArray} (hla : a.size ≤ 1000) (hlb : b.size ≤ 1000) {i j : Nat} (hi : i < a.size) (hj : j < b.size) {D : List X} {R C : List Nat} {O2 : Ob} {g0 g1 g2 : Nat}
    (hD0 : D[i + 1]? = some (.own 22 g0 0 (b.size + 1))) (hD1 : D[i]? = some (.own 23 g1 0 (b.size + 1)))
    (hA : 1 ≤ i → ∃ A, O2 = .row g2 true 1 (rowI A) ∧ isRow (b.size + 1) A (osa (at8 a) (at8 b) (i - 1)) (b.size + 1) ∧ D[i - 1]? = some (.own 24 g2 0 (b.size + 1)))
    (hR : isRow (b.size + 1) R (osa (at8 a) (at8 b) i) (b.size + 1)) (hC : isRow (b.size + 1) C (osa (at8 a) (at8 b) (i + 1)) (j + 1)) {Q : Ex → St → Prop} {cd : Code} {ρ0 : St}
    (hρ0 : PinSt 153 [(0, .v (.lit (.string a))), (1, .v (.lit (.string b))), (5, .bsl 12 1 (a.size + 1)), (6, natX .i64 (i + 1)), (7, natX .i64 (j + 1))] [(12, .box 1 D), (22, .row g0 true 1 (rowI C)), (23, .row g1 true 1 (rowI R)), (24, O2)] ρ0) (hcd : cd = codeIn8)
    (hq : ∀ C' ρ, isRow (b.size + 1) C' (osa (at8 a) (at8 b) (i + 1)) (j + 1 + 1) → PinSt 153 [(0, .v (.lit (.string a))), (1, .v (.lit (.string b))), (5, .bsl 12 1 (a.size + 1)), (6, natX .i64 (i + 1)), (7, natX .i64 (j + 1))] [(12, .box 1 D), (22, .row g0 true 1 (rowI C')), (23, .row g1 true 1 (rowI R)), (24, O2)] ρ → Q .normal ρ) :
    wpC tab ext cd ρ0 Q := by
  subst hcd
  replace hρ0 := hρ0.form
  obtain ⟨g, h, rfl⟩ := hρ0
  have hCl := hC.1
  have hRl := hR.1
  have l1 := osa_le (a := at8 a) (b := at8 b) (i + j) i j (Nat.le_refl _)
  have l2 := osa_le (a := at8 a) (b := at8 b) (i + j + 1) i (j + 1) (by omega)
  have l3 := osa_le (a := at8 a) (b := at8 b) (i + j + 1) (i + 1) j (by omega)
  have l4 := osa_le (a := at8 a) (b := at8 b) (i + j) (i - 1) (j - 1) (by omega)
  have r1 : R.getD j 0 = osa (at8 a) (at8 b) i j := hR.2 j (by omega)
  have r2 : R.getD (j + 1) 0 = osa (at8 a) (at8 b) i (j + 1) := hR.2 (j + 1) (by omega)
  have r3 : C.getD j 0 = osa (at8 a) (at8 b) (i + 1) j := hC.2 j (by omega)
  have hs := osa_s (a := at8 a) (b := at8 b) i j
  refine wC_seq ?_
  refine wC_reg ?_
  refine wS_set rfl rfl rfl (a_assign rfl rfl) ?_
  refine wO_nil ?_
  refine wC_cut (fun ρ => PinSt 153 [(0, .v (.lit (.string a))), (1, .v (.lit (.string b))), (5, .bsl 12 1 (a.size + 1)), (6, natX .i64 (i + 1)), (7, natX .i64 (j + 1)), (8, natX .i64 (if at8 a i = at8 b j then 0 else 1))] [(12, .box 1 D), (22, .row g0 true 1 (rowI C)), (23, .row g1 true 1 (rowI R)), (24, O2)] ρ) ?_ fun ρ' hI => ?_
  · refine wC_seq ?_
    refine wC_regD (by kernel_rfl) ?_
    refine wS_set rfl rfl rfl (a_move rfl rfl) ?_
    refine wS_set rfl rfl rfl (a_move rfl rfl) ?_
    refine wS_set rfl rfl rfl (n_sub (a := i + 1) (b := 1) rfl rfl (by omega) (by simp only [capN]; omega)) ?_
    refine wS_set rfl rfl rfl (n_byteAt (a := i) (by omega) rfl rfl (hT rfl) rfl) ?_
    refine wS_set rfl rfl rfl (a_move rfl rfl) ?_
    refine wS_set rfl rfl rfl (a_move rfl rfl) ?_
    refine wS_set rfl rfl rfl (n_sub (a := j + 1) (b := 1) rfl rfl (by omega) (by simp only [capN]; omega)) ?_
    refine wS_set rfl rfl rfl (n_byteAt (a := j) (by omega) rfl rfl (hT rfl) rfl) ?_
    refine wS_set rfl rfl rfl (n_eql (a := at8 a i) (b := at8 b j) rfl rfl) ?_
    refine wO_nil ⟨rfl, by kernel_rfl, ?_⟩
    refine wC_cond rfl (fun hc => ?_) (fun hc => ?_)
    · have he : at8 a i = at8 b j := of_decide_eq_true hc
      refine wC_reg ?_
      refine wS_set rfl rfl rfl (a_assign rfl rfl) ?_
      refine wO_nil ?_
      exact ⟨rfl, pinned_mk rfl ⟨rfl, rfl, rfl, rfl, rfl, by rw [if_pos he]; rfl, trivial⟩ ⟨rfl, rfl, rfl, rfl, trivial⟩⟩
    · have hne : ¬ at8 a i = at8 b j := of_decide_eq_false hc
      refine wC_skip ?_
      exact ⟨rfl, pinned_mk rfl ⟨rfl, rfl, rfl, rfl, rfl, by rw [if_neg hne]; rfl, trivial⟩ ⟨rfl, rfl, rfl, rfl, trivial⟩⟩
  clear g h
  replace hI := hI.form
  obtain ⟨g, h, rfl⟩ := hI
  have hcc : (if at8 a i = at8 b j then 0 else 1) ≤ 1 := by split <;> omega
  generalize hcdef : (if at8 a i = at8 b j then 0 else 1) = c at hs hcc ⊢
  refine wC_seq ?_
  refine wC_regD (by kernel_rfl) ?_
  refine wS_set rfl rfl rfl (a_move rfl rfl) ?_
  refine wS_set rfl rfl rfl (a_move rfl rfl) ?_
  refine wS_set rfl rfl rfl (n_indexAddrB (a := i + 1) rfl rfl (hT rfl) rfl (hT rfl) rfl (by omega)) ?_
  refine wS_set rfl rfl rfl (a_load1 rfl rfl (hT rfl) rfl hD0) ?_
  refine wS_set rfl rfl rfl (a_move rfl rfl) ?_
  refine wS_set rfl rfl rfl (a_move rfl rfl) ?_
  refine wS_set rfl rfl rfl (a_move rfl rfl) ?_
  refine wS_set rfl rfl rfl (n_sub (a := i + 1) (b := 1) rfl rfl (by omega) (by simp only [capN]; omega)) ?_
  refine wS_set rfl rfl rfl (n_indexAddrB (a := i) rfl rfl (hT rfl) rfl (hT rfl) rfl (by omega)) ?_
  refine wS_set rfl rfl rfl (a_load1 rfl rfl (hT rfl) rfl hD1) ?_
  refine wS_set rfl rfl rfl (a_move rfl rfl) ?_
  refine wS_set rfl rfl rfl (n_indexAddrP (a := j + 1) rfl rfl rfl (hT rfl) rfl (hT rfl) rfl (by omega)) ?_
  refine wS_set rfl rfl rfl (a_loadI (by omega) rfl rfl (hT rfl) rfl) ?_
  refine wS_set rfl rfl rfl (n_add (a := R.getD (j + 1) 0) (b := 1) rfl rfl (by simp only [capN]; omega)) ?_
  refine wS_set rfl rfl rfl (a_move rfl rfl) ?_
  refine wS_set rfl rfl rfl (a_move rfl rfl) ?_
  refine wS_set rfl rfl rfl (n_indexAddrB (a := i + 1) rfl rfl (hT rfl) rfl (hT rfl) rfl (by omega)) ?_
  refine wS_set rfl rfl rfl (a_load1 rfl rfl (hT rfl) rfl hD0) ?_
  refine wS_set rfl rfl rfl (a_move rfl rfl) ?_
  refine wS_set rfl rfl rfl (n_sub (a := j + 1) (b := 1) rfl rfl (by omega) (by simp only [capN]; omega)) ?_
  refine wS_set rfl rfl rfl (n_indexAddrP (a := j) rfl rfl rfl (hT rfl) rfl (hT rfl) rfl (by omega)) ?_
  refine wS_set rfl rfl rfl (a_loadI (by omega) rfl rfl (hT rfl) rfl) ?_
  refine wS_set rfl rfl rfl (n_add (a := C.getD j 0) (b := 1) rfl rfl (by simp only [capN]; omega)) ?_
  refine wS_set rfl rfl rfl (a_move rfl rfl) ?_
  refine wS_set rfl rfl rfl (a_move rfl rfl) ?_
  refine wS_set rfl rfl rfl (n_sub (a := i + 1) (b := 1) rfl rfl (by omega) (by simp only [capN]; omega)) ?_
  refine wS_set rfl rfl rfl (n_indexAddrB (a := i) rfl rfl (hT rfl) rfl (hT rfl) rfl (by omega)) ?_
  refine wS_set rfl rfl rfl (a_load1 rfl rfl (hT rfl) rfl hD1) ?_
  refine wS_set rfl rfl rfl (a_move rfl rfl) ?_
  refine wS_set rfl rfl rfl (n_sub (a := j + 1) (b := 1) rfl rfl (by omega) (by simp only [capN]; omega)) ?_
  refine wS_set rfl rfl rfl (n_indexAddrP (a := j) rfl rfl rfl (hT rfl) rfl (hT rfl) rfl (by omega)) ?_
  refine wS_set rfl rfl rfl (a_loadI (by omega) rfl rfl (hT rfl) rfl) ?_
  refine wS_set rfl rfl rfl (a_move rfl rfl) ?_
  refine wS_set rfl rfl rfl (n_add (a := R.getD j 0) (b := c) rfl rfl (by simp only [capN]; omega)) ?_
  refine wS_set rfl rfl rfl (n_min3 (a := R.getD (j + 1) 0 + 1) (b := C.getD j 0 + 1) (c := R.getD j 0 + c) rfl rfl rfl) ?_
  refine wS_set rfl rfl rfl (n_indexAddrP (a := j + 1) rfl rfl rfl (hT rfl) rfl (hT rfl) rfl (by omega)) ?_
  refine wS_eff rfl rfl (a_storeR (v := min (min (R.getD (j + 1) 0 + 1) (C.getD j 0 + 1)) (R.getD j 0 + c)) (by omega) rfl rfl rfl (hT rfl) rfl rfl) ?_
  refine wO_nil ⟨rfl, by kernel_rfl, ?_⟩
  rw [← r1, ← r2, ← r3] at hs
  by_cases h1 : 1 ≤ i
  case neg =>
    have hsw : ¬ (1 ≤ i ∧ 1 ≤ j ∧ at8 a i = at8 b (j - 1) ∧ at8 a (i - 1) = at8 b j) := fun x => h1 x.1
    rw [if_neg hsw] at hs
    refine wC_seq ?_
    refine wC_regD (by kernel_rfl) ?_
    refine wS_set rfl rfl rfl (a_move rfl rfl) ?_
    refine wS_set rfl rfl rfl (n_gtrF (a := i + 1) (b := 1) (by omega) rfl rfl) ?_
    refine wS_set rfl rfl rfl (a_move rfl rfl) ?_
    refine wS_skip rfl rfl rfl ?_
    refine wS_skip rfl rfl rfl ?_
    refine wS_set rfl rfl rfl (a_pickF rfl rfl) ?_
    refine wS_set rfl rfl rfl (a_move rfl rfl) ?_
    refine wS_skip rfl rfl rfl ?_
    refine wS_skip rfl rfl rfl ?_
    refine wS_skip rfl rfl rfl ?_
    refine wS_skip rfl rfl rfl ?_
    refine wS_skip rfl rfl rfl ?_
    refine wS_skip rfl rfl rfl ?_
    refine wS_skip rfl rfl rfl ?_
    refine wS_skip rfl rfl rfl ?_
    refine wS_skip rfl rfl rfl ?_
    refine wS_set rfl rfl rfl (a_pickF rfl rfl) ?_
    refine wS_set rfl rfl rfl (a_move rfl rfl) ?_
    refine wS_skip rfl rfl rfl ?_
    refine wS_skip rfl rfl rfl ?_
    refine wS_skip rfl rfl rfl ?_
    refine wS_skip rfl rfl rfl ?_
    refine wS_skip rfl rfl rfl ?_
    refine wS_skip rfl rfl rfl ?_
    refine wS_skip rfl rfl rfl ?_
    refine wS_skip rfl rfl rfl ?_
    refine wS_skip rfl rfl rfl ?_
    refine wS_set rfl rfl rfl (a_pickF rfl rfl) ?_
    refine wO_nil ⟨rfl, by kernel_rfl, ?_⟩
    refine wC_cond (p := false) rfl (fun hc => absurd hc (by decide)) (fun _ => ?_)
    refine wC_skip ?_
    exact hq _ _ (isRow_set hC (by omega) (by rw [hs]; omega)) (pinned_mk rfl ⟨rfl, rfl, rfl, rfl, rfl, trivial⟩ ⟨rfl, rfl, rfl, rfl, trivial⟩)
  by_cases h2 : 1 ≤ j
  case neg =>
    have hsw : ¬ (1 ≤ i ∧ 1 ≤ j ∧ at8 a i = at8 b (j - 1) ∧ at8 a (i - 1) = at8 b j) := fun x => h2 x.2.1
    rw [if_neg hsw] at hs
    refine wC_seq ?_
    refine wC_regD (by kernel_rfl) ?_
    refine wS_set rfl rfl rfl (a_move rfl rfl) ?_
    refine wS_set rfl rfl rfl (n_gtrT (a := i + 1) (b := 1) (by omega) rfl rfl) ?_
    refine wS_set rfl rfl rfl (a_move rfl rfl) ?_
    refine wS_set rfl rfl rfl (a_move rfl rfl) ?_
    refine wS_set rfl rfl rfl (n_gtrF (a := j + 1) (b := 1) (by omega) rfl rfl) ?_
    refine wS_set rfl rfl rfl (a_pickT rfl rfl) ?_
    refine wS_set rfl rfl rfl (a_move rfl rfl) ?_
    refine wS_skip rfl rfl rfl ?_
    refine wS_skip rfl rfl rfl ?_
    refine wS_skip rfl rfl rfl ?_
    refine wS_skip rfl rfl rfl ?_
    refine wS_skip rfl rfl rfl ?_
    refine wS_skip rfl rfl rfl ?_
    refine wS_skip rfl rfl rfl ?_
    refine wS_skip rfl rfl rfl ?_
    refine wS_skip rfl rfl rfl ?_
    refine wS_set rfl rfl rfl (a_pickF rfl rfl) ?_
    refine wS_set rfl rfl rfl (a_move rfl rfl) ?_
    refine wS_skip rfl rfl rfl ?_
    refine wS_skip rfl rfl rfl ?_
    refine wS_skip rfl rfl rfl ?_
    refine wS_skip rfl rfl rfl ?_
    refine wS_skip rfl rfl rfl ?_
    refine wS_skip rfl rfl rfl ?_
    refine wS_skip rfl rfl rfl ?_
    refine wS_skip rfl rfl rfl ?_
    refine wS_skip rfl rfl rfl ?_
    refine wS_set rfl rfl rfl (a_pickF rfl rfl) ?_
    refine wO_nil ⟨rfl, by kernel_rfl, ?_⟩
    refine wC_cond (p := false) rfl (fun hc => absurd hc (by decide)) (fun _ => ?_)
    refine wC_skip ?_
    exact hq _ _ (isRow_set hC (by omega) (by rw [hs]; omega)) (pinned_mk rfl ⟨rfl, rfl, rfl, rfl, rfl, trivial⟩ ⟨rfl, rfl, rfl, rfl, trivial⟩)
  by_cases h3 : at8 a i = at8 b (j - 1)
  case neg =>
    have hsw : ¬ (1 ≤ i ∧ 1 ≤ j ∧ at8 a i = at8 b (j - 1) ∧ at8 a (i - 1) = at8 b j) := fun x => h3 x.2.2.1
    rw [if_neg hsw] at hs
    refine wC_seq ?_
    refine wC_regD (by kernel_rfl) ?_
    refine wS_set rfl rfl rfl (a_move rfl rfl) ?_
    refine wS_set rfl rfl rfl (n_gtrT (a := i + 1) (b := 1) (by omega) rfl rfl) ?_
    refine wS_set rfl rfl rfl (a_move rfl rfl) ?_
    refine wS_set rfl rfl rfl (a_move rfl rfl) ?_
    refine wS_set rfl rfl rfl (n_gtrT (a := j + 1) (b := 1) (by omega) rfl rfl) ?_
    refine wS_set rfl rfl rfl (a_pickT rfl rfl) ?_
    refine wS_set rfl rfl rfl (a_move rfl rfl) ?_
    refine wS_set rfl rfl rfl (a_move rfl rfl) ?_
    refine wS_set rfl rfl rfl (a_move rfl rfl) ?_
    refine wS_set rfl rfl rfl (n_sub (a := i + 1) (b := 1) rfl rfl (by omega) (by simp only [capN]; omega)) ?_
    refine wS_set rfl rfl rfl (n_byteAt (a := i) (by omega) rfl rfl (hT rfl) rfl) ?_
    refine wS_set rfl rfl rfl (a_move rfl rfl) ?_
    refine wS_set rfl rfl rfl (a_move rfl rfl) ?_
    refine wS_set rfl rfl rfl (n_sub (a := j + 1) (b := 2) rfl rfl (by omega) (by simp only [capN]; omega)) ?_
    refine wS_set rfl rfl rfl (n_byteAt (a := j - 1) (by omega) rfl rfl (hT rfl) rfl) ?_
    refine wS_set rfl rfl rfl (n_eqlF (a := at8 a i) (b := at8 b (j - 1)) h3 rfl rfl) ?_
    refine wS_set rfl rfl rfl (a_pickT rfl rfl) ?_
    refine wS_set rfl rfl rfl (a_move rfl rfl) ?_
    refine wS_skip rfl rfl rfl ?_
    refine wS_skip rfl rfl rfl ?_
    refine wS_skip rfl rfl rfl ?_
    refine wS_skip rfl rfl rfl ?_
    refine wS_skip rfl rfl rfl ?_
    refine wS_skip rfl rfl rfl ?_
    refine wS_skip rfl rfl rfl ?_
    refine wS_skip rfl rfl rfl ?_
    refine wS_skip rfl rfl rfl ?_
    refine wS_set rfl rfl rfl (a_pickF rfl rfl) ?_
    refine wO_nil ⟨rfl, by kernel_rfl, ?_⟩
    refine wC_cond (p := false) rfl (fun hc => absurd hc (by decide)) (fun _ => ?_)
    refine wC_skip ?_
    exact hq _ _ (isRow_set hC (by omega) (by rw [hs]; omega)) (pinned_mk rfl ⟨rfl, rfl, rfl, rfl, rfl, trivial⟩ ⟨rfl, rfl, rfl, rfl, trivial⟩)
  by_cases h4 : at8 a (i - 1) = at8 b j
  case neg =>
    have hsw : ¬ (1 ≤ i ∧ 1 ≤ j ∧ at8 a i = at8 b (j - 1) ∧ at8 a (i - 1) = at8 b j) := fun x => h4 x.2.2.2
    rw [if_neg hsw] at hs
    refine wC_seq ?_
    refine wC_regD (by kernel_rfl) ?_
    refine wS_set rfl rfl rfl (a_move rfl rfl) ?_
    refine wS_set rfl rfl rfl (n_gtrT (a := i + 1) (b := 1) (by omega) rfl rfl) ?_
    refine wS_set rfl rfl rfl (a_move rfl rfl) ?_
    refine wS_set rfl rfl rfl (a_move rfl rfl) ?_
    refine wS_set rfl rfl rfl (n_gtrT (a := j + 1) (b := 1) (by omega) rfl rfl) ?_
    refine wS_set rfl rfl rfl (a_pickT rfl rfl) ?_
    refine wS_set rfl rfl rfl (a_move rfl rfl) ?_
    refine wS_set rfl rfl rfl (a_move rfl rfl) ?_
    refine wS_set rfl rfl rfl (a_move rfl rfl) ?_
    refine wS_set rfl rfl rfl (n_sub (a := i + 1) (b := 1) rfl rfl (by omega) (by simp only [capN]; omega)) ?_
    refine wS_set rfl rfl rfl (n_byteAt (a := i) (by omega) rfl rfl (hT rfl) rfl) ?_
    refine wS_set rfl rfl rfl (a_move rfl rfl) ?_
    refine wS_set rfl rfl rfl (a_move rfl rfl) ?_
    refine wS_set rfl rfl rfl (n_sub (a := j + 1) (b := 2) rfl rfl (by omega) (by simp only [capN]; omega)) ?_
    refine wS_set rfl rfl rfl (n_byteAt (a := j - 1) (by omega) rfl rfl (hT rfl) rfl) ?_
    refine wS_set rfl rfl rfl (n_eqlT (a := at8 a i) (b := at8 b (j - 1)) h3 rfl rfl) ?_
    refine wS_set rfl rfl rfl (a_pickT rfl rfl) ?_
    refine wS_set rfl rfl rfl (a_move rfl rfl) ?_
    refine wS_set rfl rfl rfl (a_move rfl rfl) ?_
    refine wS_set rfl rfl rfl (a_move rfl rfl) ?_
    refine wS_set rfl rfl rfl (n_sub (a := i + 1) (b := 2) rfl rfl (by omega) (by simp only [capN]; omega)) ?_
    refine wS_set rfl rfl rfl (n_byteAt (a := i - 1) (by omega) rfl rfl (hT rfl) rfl) ?_
    refine wS_set rfl rfl rfl (a_move rfl rfl) ?_
    refine wS_set rfl rfl rfl (a_move rfl rfl) ?_
    refine wS_set rfl rfl rfl (n_sub (a := j + 1) (b := 1) rfl rfl (by omega) (by simp only [capN]; omega)) ?_
    refine wS_set rfl rfl rfl (n_byteAt (a := j) (by omega) rfl rfl (hT rfl) rfl) ?_
    refine wS_set rfl rfl rfl (n_eqlF (a := at8 a (i - 1)) (b := at8 b j) h4 rfl rfl) ?_
    refine wS_set rfl rfl rfl (a_pickT rfl rfl) ?_
    refine wO_nil ⟨rfl, by kernel_rfl, ?_⟩
    refine wC_cond (p := false) rfl (fun hc => absurd hc (by decide)) (fun _ => ?_)
    refine wC_skip ?_
    exact hq _ _ (isRow_set hC (by omega) (by rw [hs]; omega)) (pinned_mk rfl ⟨rfl, rfl, rfl, rfl, rfl, trivial⟩ ⟨rfl, rfl, rfl, rfl, trivial⟩)
  rw [if_pos ⟨h1, h2, h3, h4⟩] at hs
  obtain ⟨A, rfl, hA, hD2⟩ := hA h1
  have hAl := hA.1
  have r4 : A.getD (j - 1) 0 = osa (at8 a) (at8 b) (i - 1) (j - 1) := hA.2 (j - 1) (by omega)
  rw [← r4] at hs
  generalize hm : min (min (R.getD (j + 1) 0 + 1) (C.getD j 0 + 1)) (R.getD j 0 + c) = m at hs ⊢
  have e1 : (C.set (j + 1) m).length = b.size + 1 := by rw [List.length_set]; exact hCl
  have e2 : (C.set (j + 1) m).getD (j + 1) 0 = m := getD_set_self (by omega)
  refine wC_seq ?_
  refine wC_regD (by kernel_rfl) ?_
  refine wS_set rfl rfl rfl (a_move rfl rfl) ?_
  refine wS_set rfl rfl rfl (n_gtrT (a := i + 1) (b := 1) (by omega) rfl rfl) ?_
  refine wS_set rfl rfl rfl (a_move rfl rfl) ?_
  refine wS_set rfl rfl rfl (a_move rfl rfl) ?_
  refine wS_set rfl rfl rfl (n_gtrT (a := j + 1) (b := 1) (by omega) rfl rfl) ?_
  refine wS_set rfl rfl rfl (a_pickT rfl rfl) ?_
  refine wS_set rfl rfl rfl (a_move rfl rfl) ?_
  refine wS_set rfl rfl rfl (a_move rfl rfl) ?_
  refine wS_set rfl rfl rfl (a_move rfl rfl) ?_
  refine wS_set rfl rfl rfl (n_sub (a := i + 1) (b := 1) rfl rfl (by omega) (by simp only [capN]; omega)) ?_
  refine wS_set rfl rfl rfl (n_byteAt (a := i) (by omega) rfl rfl (hT rfl) rfl) ?_
  refine wS_set rfl rfl rfl (a_move rfl rfl) ?_
  refine wS_set rfl rfl rfl (a_move rfl rfl) ?_
  refine wS_set rfl rfl rfl (n_sub (a := j + 1) (b := 2) rfl rfl (by omega) (by simp only [capN]; omega)) ?_
  refine wS_set rfl rfl rfl (n_byteAt (a := j - 1) (by omega) rfl rfl (hT rfl) rfl) ?_
  refine wS_set rfl rfl rfl (n_eqlT (a := at8 a i) (b := at8 b (j - 1)) h3 rfl rfl) ?_
  refine wS_set rfl rfl rfl (a_pickT rfl rfl) ?_
  refine wS_set rfl rfl rfl (a_move rfl rfl) ?_
  refine wS_set rfl rfl rfl (a_move rfl rfl) ?_
  refine wS_set rfl rfl rfl (a_move rfl rfl) ?_
  refine wS_set rfl rfl rfl (n_sub (a := i + 1) (b := 2) rfl rfl (by omega) (by simp only [capN]; omega)) ?_
  refine wS_set rfl rfl rfl (n_byteAt (a := i - 1) (by omega) rfl rfl (hT rfl) rfl) ?_
  refine wS_set rfl rfl rfl (a_move rfl rfl) ?_
  refine wS_set rfl rfl rfl (a_move rfl rfl) ?_
  refine wS_set rfl rfl rfl (n_sub (a := j + 1) (b := 1) rfl rfl (by omega) (by simp only [capN]; omega)) ?_
  refine wS_set rfl rfl rfl (n_byteAt (a := j) (by omega) rfl rfl (hT rfl) rfl) ?_
  refine wS_set rfl rfl rfl (n_eqlT (a := at8 a (i - 1)) (b := at8 b j) h4 rfl rfl) ?_
  refine wS_set rfl rfl rfl (a_pickT rfl rfl) ?_
  refine wO_nil ⟨rfl, by kernel_rfl, ?_⟩
  refine wC_cond (p := true) rfl (fun _ => ?_) (fun hc => absurd hc (by decide))
  refine wC_regD (by kernel_rfl) ?_
  refine wS_set rfl rfl rfl (a_move rfl rfl) ?_
  refine wS_set rfl rfl rfl (a_move rfl rfl) ?_
  refine wS_set rfl rfl rfl (n_indexAddrB (a := i + 1) rfl rfl (hT rfl) rfl (hT rfl) rfl (by omega)) ?_
  refine wS_set rfl rfl rfl (a_load1 rfl rfl (hT rfl) rfl hD0) ?_
  refine wS_set rfl rfl rfl (a_move rfl rfl) ?_
  refine wS_set rfl rfl rfl (a_move rfl rfl) ?_
  refine wS_set rfl rfl rfl (a_move rfl rfl) ?_
  refine wS_set rfl rfl rfl (n_indexAddrB (a := i + 1) rfl rfl (hT rfl) rfl (hT rfl) rfl (by omega)) ?_
  refine wS_set rfl rfl rfl (a_load1 rfl rfl (hT rfl) rfl hD0) ?_
  refine wS_set rfl rfl rfl (a_move rfl rfl) ?_
  refine wS_set rfl rfl rfl (n_indexAddrP (a := j + 1) rfl rfl rfl (hT rfl) rfl (hT rfl) rfl (by omega)) ?_
  refine wS_set rfl rfl rfl (a_loadI (by omega) rfl rfl (hT rfl) rfl) ?_
  refine wS_set rfl rfl rfl (a_move rfl rfl) ?_
  refine wS_set rfl rfl rfl (a_move rfl rfl) ?_
  refine wS_set rfl rfl rfl (n_sub (a := i + 1) (b := 2) rfl rfl (by omega) (by simp only [capN]; omega)) ?_
  refine wS_set rfl rfl rfl (n_indexAddrB (a := i - 1) rfl rfl (hT rfl) rfl (hT rfl) rfl (by omega)) ?_
  refine wS_set rfl rfl rfl (a_load1 rfl rfl (hT rfl) rfl hD2) ?_
  refine wS_set rfl rfl rfl (a_move rfl rfl) ?_
  refine wS_set rfl rfl rfl (n_sub (a := j + 1) (b := 2) rfl rfl (by omega) (by simp only [capN]; omega)) ?_
  refine wS_set rfl rfl rfl (n_indexAddrP (a := j - 1) rfl rfl rfl (hT rfl) rfl (hT rfl) rfl (by omega)) ?_
  refine wS_set rfl rfl rfl (a_loadI (by omega) rfl rfl (hT rfl) rfl) ?_
  refine wS_set rfl rfl rfl (n_add (a := A.getD (j - 1) 0) (b := 1) rfl rfl (by simp only [capN]; omega)) ?_
  refine wS_set rfl rfl rfl (n_min2 (a := (C.set (j + 1) m).getD (j + 1) 0) (b := A.getD (j - 1) 0 + 1) rfl rfl) ?_
  refine wS_set rfl rfl rfl (n_indexAddrP (a := j + 1) rfl rfl rfl (hT rfl) rfl (hT rfl) rfl (by omega)) ?_
  refine wS_eff rfl rfl (a_storeR (v := min ((C.set (j + 1) m).getD (j + 1) 0) (A.getD (j - 1) 0 + 1)) (by omega) rfl rfl rfl (hT rfl) rfl rfl) ?_
  refine wO_nil ⟨rfl, by kernel_rfl, ?_⟩
  refine hq _ _ ?_ (pinned_mk rfl ⟨rfl, rfl, rfl, rfl, rfl, trivial⟩ ⟨rfl, rfl, rfl, rfl, trivial⟩)
  rw [e2, List.set_set]
  exact isRow_set hC (by omega) (by rw [hs]; omega)

set_option maxRecDepth 100000 in
theorem round2 {a b : ByteArray} (hla : a.size ≤ 1000) (hlb : b.size ≤ 1000) {i j : Nat} (hi : i < a.size) (hj : j < b.size) {D : List X} {R C : List Nat} {O2 : Ob} {g0 g1 g2 : Nat}
    (hD0 : D[i + 1]? = some (.own 24 g0 0 (b.size + 1))) (hD1 : D[i]? = some (.own 22 g1 0 (b.size + 1)))
    (hA : 1 ≤ i → ∃ A, O2 = .row g2 true 1 (rowI A) ∧ isRow (b.size + 1) A (osa (at8 a) (at8 b) (i - 1)) (b.size + 1) ∧ D[i - 1]? = some (.own 23 g2 0 (b.size + 1)))
    (hR : isRow (b.size + 1) R (osa (at8 a) (at8 b) i) (b.size + 1)) (hC : isRow (b.size + 1) C (osa (at8 a) (at8 b) (i + 1)) (j + 1)) {Q : Ex → St → Prop} {cd : Code} {ρ0 : St}
    (hρ0 : PinSt 153 [(0, .v (.lit (.string a))), (1, .v (.lit (.string b))), (5, .bsl 12 1 (a.size + 1)), (6, natX .i64 (i + 1)), (7, natX .i64 (j + 1))] [(12, .box 1 D), (24, .row g0 true 1 (rowI C)), (22, .row g1 true 1 (rowI R)), (23, O2)] ρ0) (hcd : cd = codeIn8)
    (hq : ∀ C' ρ, isRow (b.size + 1) C' (osa (at8 a) (at8 b) (i + 1)) (j + 1 + 1) → PinSt 153 [(0, .v (.lit (.string a))), (1, .v (.lit (.string b))), (5, .bsl 12 1 (a.size + 1)), (6, natX .i64 (i + 1)), (7, natX .i64 (j + 1))] [(12, .box 1 D), (24, .row g0 true 1 (rowI C')), (22, .row g1 true 1 (rowI R)), (23, O2)] ρ → Q .normal ρ) :
    wpC tab ext cd ρ0 Q := by
  subst hcd
  replace hρ0 := hρ0.form
  obtain ⟨g, h, rfl⟩ := hρ0
  have hCl := hC.1
  have hRl := hR.1
  have l1 := osa_le (a := at8 a) (b := at8 b) (i + j) i j (Nat.le_refl _)
  have l2 := osa_le (a := at8 a) (b := at8 b) (i + j + 1) i (j + 1) (by omega)
  have l3 := osa_le (a := at8 a) (b := at8 b) (i + j + 1) (i + 1) j (by omega)
  have l4 := osa_le (a := at8 a) (b := at8 b) (i + j) (i - 1) (j - 1) (by omega)
  have r1 : R.getD j 0 = osa (at8 a) (at8 b) i j := hR.2 j (by omega)
  have r2 : R.getD (j + 1) 0 = osa (at8 a) (at8 b) i (j + 1) := hR.2 (j + 1) (by omega)
  have r3 : C.getD j 0 = osa (at8 a) (at8 b) (i + 1) j := hC.2 j (by omega)
  have hs := osa_s (a := at8 a) (b := at8 b) i j
  refine wC_seq ?_
  refine wC_reg ?_
  refine wS_set rfl rfl rfl (a_assign rfl rfl) ?_
  refine wO_nil ?_
  refine wC_cut (fun ρ => PinSt 153 [(0, .v (.lit (.string a))), (1, .v (.lit (.string b))), (5, .bsl 12 1 (a.size + 1)), (6, natX .i64 (i + 1)), (7, natX .i64 (j + 1)), (8, natX .i64 (if at8 a i = at8 b j then 0 else 1))] [(12, .box 1 D), (24, .row g0 true 1 (rowI C)), (22, .row g1 true 1 (rowI R)), (23, O2)] ρ) ?_ fun ρ' hI => ?_
  · refine wC_seq ?_
    refine wC_regD (by kernel_rfl) ?_
    refine wS_set rfl rfl rfl (a_move rfl rfl) ?_
    refine wS_set rfl rfl rfl (a_move rfl rfl) ?_
    refine wS_set rfl rfl rfl (n_sub (a := i + 1) (b := 1) rfl rfl (by omega) (by simp only [capN]; omega)) ?_
    refine wS_set rfl rfl rfl (n_byteAt (a := i) (by omega) rfl rfl (hT rfl) rfl) ?_
    refine wS_set rfl rfl rfl (a_move rfl rfl) ?_
    refine wS_set rfl rfl rfl (a_move rfl rfl) ?_
    refine wS_set rfl rfl rfl (n_sub (a := j + 1) (b := 1) rfl rfl (by omega) (by simp only [capN]; omega)) ?_
    refine wS_set rfl rfl rfl (n_byteAt (a := j) (by omega) rfl rfl (hT rfl) rfl) ?_
    refine wS_set rfl rfl rfl (n_eql (a := at8 a i) (b := at8 b j) rfl rfl) ?_
    refine wO_nil ⟨rfl, by kernel_rfl, ?_⟩
    refine wC_cond rfl (fun hc => ?_) (fun hc => ?_)
    · have he : at8 a i = at8 b j := of_decide_eq_true hc
      refine wC_reg ?_
      refine wS_set rfl rfl rfl (a_assign rfl rfl) ?_
      refine wO_nil ?_
      exact ⟨rfl, pinned_mk rfl ⟨rfl, rfl, rfl, rfl, rfl, by rw [if_pos he]; rfl, trivial⟩ ⟨rfl, rfl, rfl, rfl, trivial⟩⟩
    · have hne : ¬ at8 a i = at8 b j := of_decide_eq_false hc
      refine wC_skip ?_
      exact ⟨rfl, pinned_mk rfl ⟨rfl, rfl, rfl, rfl, rfl, by rw [if_neg hne]; rfl, trivial⟩ ⟨rfl, rfl, rfl, rfl, trivial⟩⟩
  clear g h
  replace hI := hI.form
  obtain ⟨g, h, rfl⟩ := hI
  have hcc : (if at8 a i = at8 b j then 0 else 1) ≤ 1 := by split <;> omega
  generalize hcdef : (if at8 a i = at8 b j then 0 else 1) = c at hs hcc ⊢
  refine wC_seq ?_
  refine wC_regD (by kernel_rfl) ?_
  refine wS_set rfl rfl rfl (a_move rfl rfl) ?_
  refine wS_set rfl rfl rfl (a_move rfl rfl) ?_
  refine wS_set rfl rfl rfl (n_indexAddrB (a := i + 1) rfl rfl (hT rfl) rfl (hT rfl) rfl (by omega)) ?_
  refine wS_set rfl rfl rfl (a_load1 rfl rfl (hT rfl) rfl hD0) ?_
  refine wS_set rfl rfl rfl (a_move rfl rfl) ?_
  refine wS_set rfl rfl rfl (a_move rfl rfl) ?_
  refine wS_set rfl rfl rfl (a_move rfl rfl) ?_
  refine wS_set rfl rfl rfl (n_sub (a := i + 1) (b := 1) rfl rfl (by omega) (by simp only [capN]; omega)) ?_
  refine wS_set rfl rfl rfl (n_indexAddrB (a := i) rfl rfl (hT rfl) rfl (hT rfl) rfl (by omega)) ?_
  refine wS_set rfl rfl rfl (a_load1 rfl rfl (hT rfl) rfl hD1) ?_
  refine wS_set rfl rfl rfl (a_move rfl rfl) ?_
  refine wS_set rfl rfl rfl (n_indexAddrP (a := j + 1) rfl rfl rfl (hT rfl) rfl (hT rfl) rfl (by omega)) ?_
  refine wS_set rfl rfl rfl (a_loadI (by omega) rfl rfl (hT rfl) rfl) ?_
  refine wS_set rfl rfl rfl (n_add (a := R.getD (j + 1) 0) (b := 1) rfl rfl (by simp only [capN]; omega)) ?_
  refine wS_set rfl rfl rfl (a_move rfl rfl) ?_
  refine wS_set rfl rfl rfl (a_move rfl rfl) ?_
  refine wS_set rfl rfl rfl (n_indexAddrB (a := i + 1) rfl rfl (hT rfl) rfl (hT rfl) rfl (by omega)) ?_
  refine wS_set rfl rfl rfl (a_load1 rfl rfl (hT rfl) rfl hD0) ?_
  refine wS_set rfl rfl rfl (a_move rfl rfl) ?_
  refine wS_set rfl rfl rfl (n_sub (a := j + 1) (b := 1) rfl rfl (by omega) (by simp only [capN]; omega)) ?_
  refine wS_set rfl rfl rfl (n_indexAddrP (a := j) rfl rfl rfl (hT rfl) rfl (hT rfl) rfl (by omega)) ?_
  refine wS_set rfl rfl rfl (a_loadI (by omega) rfl rfl (hT rfl) rfl) ?_
  refine wS_set rfl rfl rfl (n_add (a := C.getD j 0) (b := 1) rfl rfl (by simp only [capN]; omega)) ?_
  refine wS_set rfl rfl rfl (a_move rfl rfl) ?_
  refine wS_set rfl rfl rfl (a_move rfl rfl) ?_
  refine wS_set rfl rfl rfl (n_sub (a := i + 1) (b := 1) rfl rfl (by omega) (by simp only [capN]; omega)) ?_
  refine wS_set rfl rfl rfl (n_indexAddrB (a := i) rfl rfl (hT rfl) rfl (hT rfl) rfl (by omega)) ?_
  refine wS_set rfl rfl rfl (a_load1 rfl rfl (hT rfl) rfl hD1) ?_
  refine wS_set rfl rfl rfl (a_move rfl rfl) ?_
  refine wS_set rfl rfl rfl (n_sub (a := j + 1) (b := 1) rfl rfl (by omega) (by simp only [capN]; omega)) ?_
  refine wS_set rfl rfl rfl (n_indexAddrP (a := j) rfl rfl rfl (hT rfl) rfl (hT rfl) rfl (by omega)) ?_
  refine wS_set rfl rfl rfl (a_loadI (by omega) rfl rfl (hT rfl) rfl) ?_
  refine wS_set rfl rfl rfl (a_move rfl rfl) ?_
  refine wS_set rfl rfl rfl (n_add (a := R.getD j 0) (b := c) rfl rfl (by simp only [capN]; omega)) ?_
  refine wS_set rfl rfl rfl (n_min3 (a := R.getD (j + 1) 0 + 1) (b := C.getD j 0 + 1) (c := R.getD j 0 + c) rfl rfl rfl) ?_
  refine wS_set rfl rfl rfl (n_indexAddrP (a := j + 1) rfl rfl rfl (hT rfl) rfl (hT rfl) rfl (by omega)) ?_
  refine wS_eff rfl rfl (a_storeR (v := min (min (R.getD (j + 1) 0 + 1) (C.getD j 0 + 1)) (R.getD j 0 + c)) (by omega) rfl rfl rfl (hT rfl) rfl rfl) ?_
  refine wO_nil ⟨rfl, by kernel_rfl, ?_⟩
  rw [← r1, ← r2, ← r3] at hs
  by_cases h1 : 1 ≤ i
  case neg =>
    have hsw : ¬ (1 ≤ i ∧ 1 ≤ j ∧ at8 a i = at8 b (j - 1) ∧ at8 a (i - 1) = at8 b j) := fun x => h1 x.1
    rw [if_neg hsw] at hs
    refine wC_seq ?_
    refine wC_regD (by kernel_rfl) ?_
    refine wS_set rfl rfl rfl (a_move rfl rfl) ?_
    refine wS_set rfl rfl rfl (n_gtrF (a := i + 1) (b := 1) (by omega) rfl rfl) ?_
    refine wS_set rfl rfl rfl (a_move rfl rfl) ?_
    refine wS_skip rfl rfl rfl ?_
    refine wS_skip rfl rfl rfl ?_
    refine wS_set rfl rfl rfl (a_pickF rfl rfl) ?_
    refine wS_set rfl rfl rfl (a_move rfl rfl) ?_
    refine wS_skip rfl rfl rfl ?_
    refine wS_skip rfl rfl rfl ?_
    refine wS_skip rfl rfl rfl ?_
    refine wS_skip rfl rfl rfl ?_
    refine wS_skip rfl rfl rfl ?_
    refine wS_skip rfl rfl rfl ?_
    refine wS_skip rfl rfl rfl ?_
    refine wS_skip rfl rfl rfl ?_
    refine wS_skip rfl rfl rfl ?_
    refine wS_set rfl rfl rfl (a_pickF rfl rfl) ?_
    refine wS_set rfl rfl rfl (a_move rfl rfl) ?_
    refine wS_skip rfl rfl rfl ?_
    refine wS_skip rfl rfl rfl ?_
    refine wS_skip rfl rfl rfl ?_
    refine wS_skip rfl rfl rfl ?_
    refine wS_skip rfl rfl rfl ?_
    refine wS_skip rfl rfl rfl ?_
    refine wS_skip rfl rfl rfl ?_
    refine wS_skip rfl rfl rfl ?_
    refine wS_skip rfl rfl rfl ?_
    refine wS_set rfl rfl rfl (a_pickF rfl rfl) ?_
    refine wO_nil ⟨rfl, by kernel_rfl, ?_⟩
    refine wC_cond (p := false) rfl (fun hc => absurd hc (by decide)) (fun _ => ?_)
    refine wC_skip ?_
    exact hq _ _ (isRow_set hC (by omega) (by rw [hs]; omega)) (pinned_mk rfl ⟨rfl, rfl, rfl, rfl, rfl, trivial⟩ ⟨rfl, rfl, rfl, rfl, trivial⟩)
  by_cases h2 : 1 ≤ j
  case neg =>
    have hsw : ¬ (1 ≤ i ∧ 1 ≤ j ∧ at8 a i = at8 b (j - 1) ∧ at8 a (i - 1) = at8 b j) := fun x => h2 x.2.1
    rw [if_neg hsw] at hs
    refine wC_seq ?_
    refine wC_regD (by kernel_rfl) ?_
    refine wS_set rfl rfl rfl (a_move rfl rfl) ?_
    refine wS_set rfl rfl rfl (n_gtrT (a := i + 1) (b := 1) (by omega) rfl rfl) ?_
    refine wS_set rfl rfl rfl (a_move rfl rfl) ?_
    refine wS_set rfl rfl rfl (a_move rfl rfl) ?_
    refine wS_set rfl rfl rfl (n_gtrF (a := j + 1) (b := 1) (by omega) rfl rfl) ?_
    refine wS_set rfl rfl rfl (a_pickT rfl rfl) ?_
    refine wS_set rfl rfl rfl (a_move rfl rfl) ?_
    refine wS_skip rfl rfl rfl ?_
    refine wS_skip rfl rfl rfl ?_
    refine wS_skip rfl rfl rfl ?_
    refine wS_skip rfl rfl rfl ?_
    refine wS_skip rfl rfl rfl ?_
    refine wS_skip rfl rfl rfl ?_
    refine wS_skip rfl rfl rfl ?_
    refine wS_skip rfl rfl rfl ?_
    refine wS_skip rfl rfl rfl ?_
    refine wS_set rfl rfl rfl (a_pickF rfl rfl) ?_
    refine wS_set rfl rfl rfl (a_move rfl rfl) ?_
    refine wS_skip rfl rfl rfl ?_
    refine wS_skip rfl rfl rfl ?_
    refine wS_skip rfl rfl rfl ?_
    refine wS_skip rfl rfl rfl ?_
    refine wS_skip rfl rfl rfl ?_
    refine wS_skip rfl rfl rfl ?_
    refine wS_skip rfl rfl rfl ?_
    refine wS_skip rfl rfl rfl ?_
    refine wS_skip rfl rfl rfl ?_
    refine wS_set rfl rfl rfl (a_pickF rfl rfl) ?_
    refine wO_nil ⟨rfl, by kernel_rfl, ?_⟩
    refine wC_cond (p := false) rfl (fun hc => absurd hc (by decide)) (fun _ => ?_)
    refine wC_skip ?_
    exact hq _ _ (isRow_set hC (by omega) (by rw [hs]; omega)) (pinned_mk rfl ⟨rfl, rfl, rfl, rfl, rfl, trivial⟩ ⟨rfl, rfl, rfl, rfl, trivial⟩)
  by_cases h3 : at8 a i = at8 b (j - 1)
  case neg =>
    have hsw : ¬ (1 ≤ i ∧ 1 ≤ j ∧ at8 a i = at8 b (j - 1) ∧ at8 a (i - 1) = at8 b j) := fun x => h3 x.2.2.1
    rw [if_neg hsw] at hs
    refine wC_seq ?_
    refine wC_regD (by kernel_rfl) ?_
    refine wS_set rfl rfl rfl (a_move rfl rfl) ?_
    refine wS_set rfl rfl rfl (n_gtrT (a := i + 1) (b := 1) (by omega) rfl rfl) ?_
    refine wS_set rfl rfl rfl (a_move rfl rfl) ?_
    refine wS_set rfl rfl rfl (a_move rfl rfl) ?_
    refine wS_set rfl rfl rfl (n_gtrT (a := j + 1) (b := 1) (by omega) rfl rfl) ?_
    refine wS_set rfl rfl rfl (a_pickT rfl rfl) ?_
    refine wS_set rfl rfl rfl (a_move rfl rfl) ?_
    refine wS_set rfl rfl rfl (a_move rfl rfl) ?_
    refine wS_set rfl rfl rfl (a_move rfl rfl) ?_
    refine wS_set rfl rfl rfl (n_sub (a := i + 1) (b := 1) rfl rfl (by omega) (by simp only [capN]; omega)) ?_
    refine wS_set rfl rfl rfl (n_byteAt (a := i) (by omega) rfl rfl (hT rfl) rfl) ?_
    refine wS_set rfl rfl rfl (a_move rfl rfl) ?_
    refine wS_set rfl rfl rfl (a_move rfl rfl) ?_
    refine wS_set rfl rfl rfl (n_sub (a := j + 1) (b := 2) rfl rfl (by omega) (by simp only [capN]; omega)) ?_
    refine wS_set rfl rfl rfl (n_byteAt (a := j - 1) (by omega) rfl rfl (hT rfl) rfl) ?_
    refine wS_set rfl rfl rfl (n_eqlF (a := at8 a i) (b := at8 b (j - 1)) h3 rfl rfl) ?_
    refine wS_set rfl rfl rfl (a_pickT rfl rfl) ?_
    refine wS_set rfl rfl rfl (a_move rfl rfl) ?_
    refine wS_skip rfl rfl rfl ?_
    refine wS_skip rfl rfl rfl ?_
    refine wS_skip rfl rfl rfl ?_
    refine wS_skip rfl rfl rfl ?_
    refine wS_skip rfl rfl rfl ?_
    refine wS_skip rfl rfl rfl ?_
    refine wS_skip rfl rfl rfl ?_
    refine wS_skip rfl rfl rfl ?_
    refine wS_skip rfl rfl rfl ?_
    refine wS_set rfl rfl rfl (a_pickF rfl rfl) ?_
    refine wO_nil ⟨rfl, by kernel_rfl, ?_⟩
    refine wC_cond (p := false) rfl (fun hc => absurd hc (by decide)) (fun _ => ?_)
    refine wC_skip ?_
    exact hq _ _ (isRow_set hC (by omega) (by rw [hs]; omega)) (pinned_mk rfl ⟨rfl, rfl, rfl, rfl, rfl, trivial⟩ ⟨rfl, rfl, rfl, rfl, trivial⟩)
  by_cases h4 : at8 a (i - 1) = at8 b j
  case neg =>
    have hsw : ¬ (1 ≤ i ∧ 1 ≤ j ∧ at8 a i = at8 b (j - 1) ∧ at8 a (i - 1) = at8 b j) := fun x => h4 x.2.2.2
    rw [if_neg hsw] at hs
    refine wC_seq ?_
    refine wC_regD (by kernel_rfl) ?_
    refine wS_set rfl rfl rfl (a_move rfl rfl) ?_
    refine wS_set rfl rfl rfl (n_gtrT (a := i + 1) (b := 1) (by omega) rfl rfl) ?_
    refine wS_set rfl rfl rfl (a_move rfl rfl) ?_
    refine wS_set rfl rfl rfl (a_move rfl rfl) ?_
    refine wS_set rfl rfl rfl (n_gtrT (a := j + 1) (b := 1) (by omega) rfl rfl) ?_
    refine wS_set rfl rfl rfl (a_pickT rfl rfl) ?_
    refine wS_set rfl rfl rfl (a_move rfl rfl) ?_
    refine wS_set rfl rfl rfl (a_move rfl rfl) ?_
    refine wS_set rfl rfl rfl (a_move rfl rfl) ?_
    refine wS_set rfl rfl rfl (n_sub (a := i + 1) (b := 1) rfl rfl (by omega) (by simp only [capN]; omega)) ?_
    refine wS_set rfl rfl rfl (n_byteAt (a := i) (by omega) rfl rfl (hT rfl) rfl) ?_
    refine wS_set rfl rfl rfl (a_move rfl rfl) ?_
    refine wS_set rfl rfl rfl (a_move rfl rfl) ?_
    refine wS_set rfl rfl rfl (n_sub (a := j + 1) (b := 2) rfl rfl (by omega) (by simp only [capN]; omega)) ?_
    refine wS_set rfl rfl rfl (n_byteAt (a := j - 1) (by omega) rfl rfl (hT rfl) rfl) ?_
    refine wS_set rfl rfl rfl (n_eqlT (a := at8 a i) (b := at8 b (j - 1)) h3 rfl rfl) ?_
    refine wS_set rfl rfl rfl (a_pickT rfl rfl) ?_
    refine wS_set rfl rfl rfl (a_move rfl rfl) ?_
    refine wS_set rfl rfl rfl (a_move rfl rfl) ?_
    refine wS_set rfl rfl rfl (a_move rfl rfl) ?_
    refine wS_set rfl rfl rfl (n_sub (a := i + 1) (b := 2) rfl rfl (by omega) (by simp only [capN]; omega)) ?_
    refine wS_set rfl rfl rfl (n_byteAt (a := i - 1) (by omega) rfl rfl (hT rfl) rfl) ?_
    refine wS_set rfl rfl rfl (a_move rfl rfl) ?_
    refine wS_set rfl rfl rfl (a_move rfl rfl) ?_
    refine wS_set rfl rfl rfl (n_sub (a := j + 1) (b := 1) rfl rfl (by omega) (by simp only [capN]; omega)) ?_
    refine wS_set rfl rfl rfl (n_byteAt (a := j) (by omega) rfl rfl (hT rfl) rfl) ?_
    refine wS_set rfl rfl rfl (n_eqlF (a := at8 a (i - 1)) (b := at8 b j) h4 rfl rfl) ?_
    refine wS_set rfl rfl rfl (a_pickT rfl rfl) ?_
    refine wO_nil ⟨rfl, by kernel_rfl, ?_⟩
    refine wC_cond (p := false) rfl (fun hc => absurd hc (by decide)) (fun _ => ?_)
    refine wC_skip ?_
    exact hq _ _ (isRow_set hC (by omega) (by rw [hs]; omega)) (pinned_mk rfl ⟨rfl, rfl, rfl, rfl, rfl, trivial⟩ ⟨rfl, rfl, rfl, rfl, trivial⟩)
  rw [if_pos ⟨h1, h2, h3, h4⟩] at hs
  obtain ⟨A, rfl, hA, hD2⟩ := hA h1
  have hAl := hA.1
  have r4 : A.getD (j - 1) 0 = osa (at8 a) (at8 b) (i - 1) (j - 1) := hA.2 (j - 1) (by omega)
  rw [← r4] at hs
  generalize hm : min (min (R.getD (j + 1) 0 + 1) (C.getD j 0 + 1)) (R.getD j 0 + c) = m at hs ⊢
  have e1 : (C.set (j + 1) m).length = b.size + 1 := by rw [List.length_set]; exact hCl
  have e2 : (C.set (j + 1) m).getD (j + 1) 0 = m := getD_set_self (by omega)
  refine wC_seq ?_
  refine wC_regD (by kernel_rfl) ?_
  refine wS_set rfl rfl rfl (a_move rfl rfl) ?_
  refine wS_set rfl rfl rfl (n_gtrT (a := i + 1) (b := 1) (by omega) rfl rfl) ?_
  refine wS_set rfl rfl rfl (a_move rfl rfl) ?_
  refine wS_set rfl rfl rfl (a_move rfl rfl) ?_
  refine wS_set rfl rfl rfl (n_gtrT (a := j + 1) (b := 1) (by omega) rfl rfl) ?_
  refine wS_set rfl rfl rfl (a_pickT rfl rfl) ?_
  refine wS_set rfl rfl rfl (a_move rfl rfl) ?_
  refine wS_set rfl rfl rfl (a_move rfl rfl) ?_
  refine wS_set rfl rfl rfl (a_move rfl rfl) ?_
  refine wS_set rfl rfl rfl (n_sub (a := i + 1) (b := 1) rfl rfl (by omega) (by simp only [capN]; omega)) ?_
  refine wS_set rfl rfl rfl (n_byteAt (a := i) (by omega) rfl rfl (hT rfl) rfl) ?_
  refine wS_set rfl rfl rfl (a_move rfl rfl) ?_
  refine wS_set rfl rfl rfl (a_move rfl rfl) ?_
  refine wS_set rfl rfl rfl (n_sub (a := j + 1) (b := 2) rfl rfl (by omega) (by simp only [capN]; omega)) ?_
  refine wS_set rfl rfl rfl (n_byteAt (a := j - 1) (by omega) rfl rfl (hT rfl) rfl) ?_
  refine wS_set rfl rfl rfl (n_eqlT (a := at8 a i) (b := at8 b (j - 1)) h3 rfl rfl) ?_
  refine wS_set rfl rfl rfl (a_pickT rfl rfl) ?_
  refine wS_set rfl rfl rfl (a_move rfl rfl) ?_
  refine wS_set rfl rfl rfl (a_move rfl rfl) ?_
  refine wS_set rfl rfl rfl (a_move rfl rfl) ?_
  refine wS_set rfl rfl rfl (n_sub (a := i + 1) (b := 2) rfl rfl (by omega) (by simp only [capN]; omega)) ?_
  refine wS_set rfl rfl rfl (n_byteAt (a := i - 1) (by omega) rfl rfl (hT rfl) rfl) ?_
  refine wS_set rfl rfl rfl (a_move rfl rfl) ?_
  refine wS_set rfl rfl rfl (a_move rfl rfl) ?_
  refine wS_set rfl rfl rfl (n_sub (a := j + 1) (b := 1) rfl rfl (by omega) (by simp only [capN]; omega)) ?_
  refine wS_set rfl rfl rfl (n_byteAt (a := j) (by omega) rfl rfl (hT rfl) rfl) ?_
  refine wS_set rfl rfl rfl (n_eqlT (a := at8 a (i - 1)) (b := at8 b j) h4 rfl rfl) ?_
  refine wS_set rfl rfl rfl (a_pickT rfl rfl) ?_
  refine wO_nil ⟨rfl, by kernel_rfl, ?_⟩
  refine wC_cond (p := true) rfl (fun _ => ?_) (fun hc => absurd hc (by decide))
  refine wC_regD (by kernel_rfl) ?_
  refine wS_set rfl rfl rfl (a_move rfl rfl) ?_
  refine wS_set rfl rfl rfl (a_move rfl rfl) ?_
  refine wS_set rfl rfl rfl (n_indexAddrB (a := i + 1) rfl rfl (hT rfl) rfl (hT rfl) rfl (by omega)) ?_
  refine wS_set rfl rfl rfl (a_load1 rfl rfl (hT rfl) rfl hD0) ?_
  refine wS_set rfl rfl rfl (a_move rfl rfl) ?_
  refine wS_set rfl rfl rfl (a_move rfl rfl) ?_
  refine wS_set rfl rfl rfl (a_move rfl rfl) ?_
  refine wS_set rfl rfl rfl (n_indexAddrB (a := i + 1) rfl rfl (hT rfl) rfl (hT rfl) rfl (by omega)) ?_
  refine wS_set rfl rfl rfl (a_load1 rfl rfl (hT rfl) rfl hD0) ?_
  refine wS_set rfl rfl rfl (a_move rfl rfl) ?_
  refine wS_set rfl rfl rfl (n_indexAddrP (a := j + 1) rfl rfl rfl (hT rfl) rfl (hT rfl) rfl (by omega)) ?_
  refine wS_set rfl rfl rfl (a_loadI (by omega) rfl rfl (hT rfl) rfl) ?_
  refine wS_set rfl rfl rfl (a_move rfl rfl) ?_
  refine wS_set rfl rfl rfl (a_move rfl rfl) ?_
  refine wS_set rfl rfl rfl (n_sub (a := i + 1) (b := 2) rfl rfl (by omega) (by simp only [capN]; omega)) ?_
  refine wS_set rfl rfl rfl (n_indexAddrB (a := i - 1) rfl rfl (hT rfl) rfl (hT rfl) rfl (by omega)) ?_
  refine wS_set rfl rfl rfl (a_load1 rfl rfl (hT rfl) rfl hD2) ?_
  refine wS_set rfl rfl rfl (a_move rfl rfl) ?_
  refine wS_set rfl rfl rfl (n_sub (a := j + 1) (b := 2) rfl rfl (by omega) (by simp only [capN]; omega)) ?_
  refine wS_set rfl rfl rfl (n_indexAddrP (a := j - 1) rfl rfl rfl (hT rfl) rfl (hT rfl) rfl (by omega)) ?_
  refine wS_set rfl rfl rfl (a_loadI (by omega) rfl rfl (hT rfl) rfl) ?_
  refine wS_set rfl rfl rfl (n_add (a := A.getD (j - 1) 0) (b := 1) rfl rfl (by simp only [capN]; omega)) ?_
  refine wS_set rfl rfl rfl (n_min2 (a := (C.set (j + 1) m).getD (j + 1) 0) (b := A.getD (j - 1) 0 + 1) rfl rfl) ?_
  refine wS_set rfl rfl rfl (n_indexAddrP (a := j + 1) rfl rfl rfl (hT rfl) rfl (hT rfl) rfl (by omega)) ?_
  refine wS_eff rfl rfl (a_storeR (v := min ((C.set (j + 1) m).getD (j + 1) 0) (A.getD (j - 1) 0 + 1)) (by omega) rfl rfl rfl (hT rfl) rfl rfl) ?_
  refine wO_nil ⟨rfl, by kernel_rfl, ?_⟩
  refine hq _ _ ?_ (pinned_mk rfl ⟨rfl, rfl, rfl, rfl, rfl, trivial⟩ ⟨rfl, rfl, rfl, rfl, trivial⟩)
  rw [e2, List.set_set]
  exact isRow_set hC (by omega) (by rw [hs]; omega)

end Go.Proofs.Ytmmgcodoimpklaa

namespace Go.Proofs.Ytmmgcodoimpklaa
open Go.Dv

/-- The rows that the next round reads: row i and, if there is one, the row before it. -/
structure Last (a b : ByteArray) (D : List X) (i s1 g1 s2 g2 : Nat) (R : List Nat) (O2 O3 : Ob) (g3 : Nat) : Prop where
  row : isRow (b.size + 1) R (osa (at8 a) (at8 b) i) (b.size + 1)
  at1 : D[i]? = some (.own s1 g1 0 (b.size + 1))
  o2 : O2.gen = g2
  o3 : O3.gen = g3
  at2 : 1 ≤ i → ∃ A, O2 = .row g2 true 1 (rowI A) ∧ isRow (b.size + 1) A (osa (at8 a) (at8 b) (i - 1)) (b.size + 1) ∧ D[i - 1]? = some (.own s2 g2 0 (b.size + 1))

theorem Last.next {a b : ByteArray} {D : List X} {i s1 g1 s2 g2 s0 g0 g3 : Nat} {R C : List Nat} {O2 O3 : Ob} (h : Last a b D i s1 g1 s2 g2 R O2 O3 g3) (hi : i + 1 < D.length)
    (hC : isRow (b.size + 1) C (osa (at8 a) (at8 b) (i + 1)) (b.size + 1)) : Last a b (D.set (i + 1) (.own s0 g0 0 (b.size + 1))) (i + 1) s0 g0 s1 g1 C (.row g1 true 1 (rowI R)) O2 g2 :=
  ⟨hC, List.getElem?_set_self hi, rfl, h.o2, fun _ => ⟨R, rfl, h.row, by rw [Nat.add_sub_cancel, List.getElem?_set_ne (by omega)]; exact h.at1⟩⟩

set_option maxRecDepth 100000 in
theorem ev8 {a b : ByteArray} (hla : a.size ≤ 1000) (hlb : b.size ≤ 1000) : FnEv tab ext 8 [.v (strV a), .v (strV b)] [] (.ret [natV (osa (at8 a) (at8 b) a.size b.size)], []) := by
  refine fn_go _ no8 fn8 rfl rfl rfl ?_
  refine wC_seq ?_
  refine wC_reg ?_
  refine wS_set rfl rfl rfl (a_assign rfl rfl) ?_
  refine wO_nil ?_
  refine wC_seq ?_
  refine wC_reg ?_
  refine wS_set rfl rfl rfl (a_move rfl rfl) ?_
  refine wS_set rfl rfl rfl (a_lenStr rfl rfl (hT rfl) rfl) ?_
  refine wS_set rfl rfl rfl (n_add (a := a.size) (b := 1) rfl rfl (by simp only [capN]; omega)) ?_
  refine wS_set rfl rfl rfl (a_makeM (n := a.size + 1) rfl rfl (hT rfl) rfl (hT rfl) rfl rfl (by simp only [big]; omega) rfl rfl rfl) ?_
  refine wS_set rfl rfl rfl (a_assign rfl rfl) ?_
  refine wO_nil ?_
  refine wC_seq ?_
  refine wC_seq ?_
  refine wC_reg ?_
  refine wS_set rfl rfl rfl (a_assign rfl rfl) ?_
  refine wO_nil ?_
  refine wC_block ?_
  refine wC_loop (fun k ρ => ∃ m, m + k = a.size + 1 ∧ ∃ D : List X, D.length = a.size + 1 ∧ (m = 0 ∧ PinSt 153 [(0, .v (.lit (.string a))), (1, .v (.lit (.string b))), (5, .bsl 12 1 (a.size + 1)), (6, natX .i64 0)] [(12, .box 1 D), (24, .none 0), (23, .none 0), (22, .none 0)] ρ ∨
      ∃ i q R O2 O3, m = i + 1 ∧ ((i = 3 * q + 0 ∧ Last a b D i 24 (q + 1) 22 (q) R O2 O3 (q) ∧ PinSt 153 [(0, .v (.lit (.string a))), (1, .v (.lit (.string b))), (5, .bsl 12 1 (a.size + 1)), (6, natX .i64 (i + 1))] [(12, .box 1 D), (24, .row (q + 1) true 1 (rowI R)), (22, O2), (23, O3)] ρ) ∨ (i = 3 * q + 1 ∧ Last a b D i 23 (q + 1) 24 (q + 1) R O2 O3 (q) ∧ PinSt 153 [(0, .v (.lit (.string a))), (1, .v (.lit (.string b))), (5, .bsl 12 1 (a.size + 1)), (6, natX .i64 (i + 1))] [(12, .box 1 D), (23, .row (q + 1) true 1 (rowI R)), (24, O2), (22, O3)] ρ) ∨ (i = 3 * q + 2 ∧ Last a b D i 22 (q + 1) 23 (q + 1) R O2 O3 (q + 1) ∧ PinSt 153 [(0, .v (.lit (.string a))), (1, .v (.lit (.string b))), (5, .bsl 12 1 (a.size + 1)), (6, natX .i64 (i + 1))] [(12, .box 1 D), (22, .row (q + 1) true 1 (rowI R)), (23, O2), (24, O3)] ρ)))) (fun k ρ hi => ?_) (a.size + 1)
    ⟨0, by omega, _, List.length_replicate, .inl ⟨rfl, pinned_mk rfl ⟨rfl, rfl, rfl, rfl, trivial⟩ ⟨rfl, rfl, rfl, rfl, trivial⟩⟩⟩
  obtain ⟨m, hm, D, hD, ⟨rfl, hi⟩ | ⟨i, q, R, O2, O3, rfl, hi⟩⟩ := hi
  · replace hi := hi.form
    obtain ⟨g, h, rfl⟩ := hi
    refine wC_seq ?_
    refine wC_seq ?_
    refine wC_reg ?_
    refine wS_set rfl rfl rfl (a_move rfl rfl) ?_
    refine wS_set rfl rfl rfl (a_move rfl rfl) ?_
    refine wS_set rfl rfl rfl (a_lenStr rfl rfl (hT rfl) rfl) ?_
    refine wS_set rfl rfl rfl (n_leqT (a := 0) (b := a.size) (Nat.zero_le _) rfl rfl) ?_
    refine wO_nil ?_
    refine wC_cond (p := true) rfl (fun _ => ?_) (fun hc => absurd hc (by decide))
    refine wC_skip ?_
    refine wC_seq ?_
    refine wC_block ?_
    refine wC_seq ?_
    refine wC_reg ?_
    refine wS_set rfl rfl rfl (a_move rfl rfl) ?_
    refine wS_set rfl rfl rfl (a_move rfl rfl) ?_
    refine wS_set rfl rfl rfl (a_move rfl rfl) ?_
    refine wS_set rfl rfl rfl (a_lenStr rfl rfl (hT rfl) rfl) ?_
    refine wS_set rfl rfl rfl (n_add (a := b.size) (b := 1) rfl rfl (by simp only [capN]; omega)) ?_
    refine wS_set rfl rfl rfl (a_makeR (r := 22) (g0 := 0) (g1 := 0) (g2 := 0) (s := 24) (g := 1) (n := b.size + 1) rfl rfl (hT rfl) rfl (hT rfl) rfl rfl (by simp only [big]; omega) rfl rfl rfl rfl rfl (.inl ⟨Nat.le_refl _, Nat.le_refl _, rfl, rfl⟩)) ?_
    refine wS_set rfl rfl rfl (n_indexAddrB (a := 0) rfl rfl (hT rfl) rfl (hT rfl) rfl (by omega)) ?_
    refine wS_eff rfl rfl (a_store1 rfl rfl rfl rfl rfl (hT rfl) rfl rfl (by omega)) ?_
    refine wO_nil ?_
    refine wC_seq ?_
    refine wC_reg ?_
    refine wS_set rfl rfl rfl (a_assign rfl rfl) ?_
    refine wO_nil ?_
    refine wC_block ?_
    refine wC_loop (fun k ρ => ∃ j, j + k = b.size + 1 ∧ ∃ C, isRow (b.size + 1) C (fun x => x) j ∧ PinSt 153 [(0, .v (.lit (.string a))), (1, .v (.lit (.string b))), (5, .bsl 12 1 (a.size + 1)), (6, natX .i64 0), (7, natX .i64 j)] [(12, .box 1 (D.set 0 (.own 24 1 0 (b.size + 1)))), (24, .row 1 true 1 (rowI C)), (23, .none 0), (22, .none 0)] ρ) (fun k2 ρ hi => ?_) (b.size + 1)
      ⟨0, by omega, List.replicate (b.size + 1) 0, ⟨List.length_replicate, fun k hk => absurd hk (Nat.not_lt_zero _)⟩, pinned_mk rfl ⟨rfl, rfl, rfl, rfl, rfl, trivial⟩ ⟨rfl, by rw [rowI_rep]; rfl, rfl, rfl, trivial⟩⟩
    clear g h
    obtain ⟨j, hm2, C, hC, hi⟩ := hi
    replace hi := hi.form
    obtain ⟨g, h, rfl⟩ := hi
    have hCl := hC.1
    have hD0 : (D.set 0 (X.own 24 1 0 (b.size + 1)))[0]? = some (.own 24 1 0 (b.size + 1)) := List.getElem?_set_self (by omega)
    refine wC_seq ?_
    refine wC_seq ?_
    refine wC_reg ?_
    refine wS_set rfl rfl rfl (a_move rfl rfl) ?_
    refine wS_set rfl rfl rfl (a_move rfl rfl) ?_
    refine wS_set rfl rfl rfl (a_lenStr rfl rfl (hT rfl) rfl) ?_
    refine wS_set rfl rfl rfl (n_leq (a := j) (b := b.size) rfl rfl) ?_
    refine wO_nil ?_
    refine wC_cond rfl (fun hc => ?_) (fun hc => ?_)
    · have hj : j ≤ b.size := of_decide_eq_true hc
      refine wC_skip ?_
      refine wC_seq ?_
      refine wC_block ?_
      refine wC_seq ?_
      refine wC_seq ?_
      refine wC_reg ?_
      refine wS_set rfl rfl rfl (a_move rfl rfl) ?_
      refine wS_set rfl rfl rfl (n_eqlT (a := 0) (b := 0) rfl rfl rfl) ?_
      refine wS_set rfl rfl rfl (a_move rfl rfl) ?_
      refine wS_skip rfl rfl rfl ?_
      refine wS_skip rfl rfl rfl ?_
      refine wS_set rfl rfl rfl (a_pickT rfl rfl) ?_
      refine wO_nil ?_
      refine wC_cond (p := true) rfl (fun _ => ?_) (fun hc => absurd hc (by decide))
      refine wC_seq ?_
      refine wC_reg ?_
      refine wS_set rfl rfl rfl (a_move rfl rfl) ?_
      refine wS_set rfl rfl rfl (a_move rfl rfl) ?_
      refine wS_set rfl rfl rfl (n_indexAddrB (a := 0) rfl rfl (hT rfl) rfl (hT rfl) rfl (by omega)) ?_
      refine wS_set rfl rfl rfl (a_load1 rfl rfl (hT rfl) rfl hD0) ?_
      refine wS_set rfl rfl rfl (a_move rfl rfl) ?_
      refine wS_set rfl rfl rfl (a_move rfl rfl) ?_
      refine wS_set rfl rfl rfl (a_move rfl rfl) ?_
      refine wS_set rfl rfl rfl (n_add (a := 0) (b := j) rfl rfl (by simp only [capN]; omega)) ?_
      refine wS_set rfl rfl rfl (n_indexAddrP (a := j) rfl rfl rfl (hT rfl) rfl (hT rfl) rfl (by omega)) ?_
      refine wS_eff rfl rfl (a_storeR (v := 0 + j) (by omega) rfl rfl rfl (hT rfl) rfl rfl) ?_
      refine wO_nil ?_
      refine wC_exit ?_
      refine wC_reg ?_
      refine wS_set rfl rfl rfl (a_move rfl rfl) ?_
      refine wS_set rfl rfl rfl (n_add (b := 1) rfl rfl (by simp only [capN]; omega)) ?_
      refine wS_set rfl rfl rfl (a_assign rfl rfl) ?_
      refine wO_nil ?_
      exact ⟨k2 - 1, by omega, j + 1, by omega, _, isRow_set hC (by omega) (Nat.zero_add j), pinned_mk rfl ⟨rfl, rfl, rfl, rfl, rfl, trivial⟩ ⟨rfl, rfl, rfl, rfl, trivial⟩⟩
    · have hj : ¬ j ≤ b.size := of_decide_eq_false hc
      obtain rfl : j = b.size + 1 := by omega
      refine wC_exit ?_
      refine wC_reg ?_
      refine wS_set rfl rfl rfl (a_move rfl rfl) ?_
      refine wS_set rfl rfl rfl (n_add (a := 0) (b := 1) rfl rfl (by simp only [capN]; omega)) ?_
      refine wS_set rfl rfl rfl (a_assign rfl rfl) ?_
      refine wO_nil ?_
      exact ⟨k - 1, by omega, 1, by omega, _, by rw [List.length_set]; exact hD, .inr ⟨0, 0, C, .none 0, .none 0, rfl, .inl ⟨rfl, ⟨⟨hCl, fun k hk => by rw [osa_0]; exact hC.2 k hk⟩, hD0, rfl, rfl, fun h => absurd h (by omega)⟩, pinned_mk rfl ⟨rfl, rfl, rfl, rfl, trivial⟩ ⟨rfl, rfl, rfl, rfl, trivial⟩⟩⟩⟩
  rcases hi with hi | hi | hi
  · obtain ⟨hq, hL, hi⟩ := hi
    replace hi := hi.form
    obtain ⟨g, h, rfl⟩ := hi
    refine wC_seq ?_
    refine wC_seq ?_
    refine wC_reg ?_
    refine wS_set rfl rfl rfl (a_move rfl rfl) ?_
    refine wS_set rfl rfl rfl (a_move rfl rfl) ?_
    refine wS_set rfl rfl rfl (a_lenStr rfl rfl (hT rfl) rfl) ?_
    refine wS_set rfl rfl rfl (n_leq (a := i + 1) (b := a.size) rfl rfl) ?_
    refine wO_nil ?_
    refine wC_cond rfl (fun hc => ?_) (fun hc => ?_)
    · have hia : i + 1 ≤ a.size := of_decide_eq_true hc
      refine wC_skip ?_
      refine wC_seq ?_
      refine wC_block ?_
      refine wC_seq ?_
      refine wC_reg ?_
      refine wS_set rfl rfl rfl (a_move rfl rfl) ?_
      refine wS_set rfl rfl rfl (a_move rfl rfl) ?_
      refine wS_set rfl rfl rfl (a_move rfl rfl) ?_
      refine wS_set rfl rfl rfl (a_lenStr rfl rfl (hT rfl) rfl) ?_
      refine wS_set rfl rfl rfl (n_add (a := b.size) (b := 1) rfl rfl (by simp only [capN]; omega)) ?_
      refine wS_set rfl rfl rfl (a_makeR (r := 22) (g0 := q + 1) (g1 := q) (g2 := q) (s := 23) (g := q + 1) (n := b.size + 1) rfl rfl (hT rfl) rfl (hT rfl) rfl rfl (by simp only [big]; omega) rfl rfl rfl hL.o3 hL.o2 (.inr (.inl ⟨by omega, by omega, rfl, rfl⟩))) ?_
      refine wS_set rfl rfl rfl (n_indexAddrB (a := i + 1) rfl rfl (hT rfl) rfl (hT rfl) rfl (by omega)) ?_
      refine wS_eff rfl rfl (a_store1 rfl rfl rfl rfl rfl (hT rfl) rfl rfl (by omega)) ?_
      refine wO_nil ?_
      refine wC_seq ?_
      refine wC_reg ?_
      refine wS_set rfl rfl rfl (a_assign rfl rfl) ?_
      refine wO_nil ?_
      refine wC_block ?_
      refine wC_loop (fun k ρ => ∃ j, j + k = b.size + 1 ∧ ∃ C, isRow (b.size + 1) C (osa (at8 a) (at8 b) (i + 1)) j ∧ PinSt 153 [(0, .v (.lit (.string a))), (1, .v (.lit (.string b))), (5, .bsl 12 1 (a.size + 1)), (6, natX .i64 (i + 1)), (7, natX .i64 j)] [(12, .box 1 (D.set (i + 1) (.own 23 (q + 1) 0 (b.size + 1)))), (23, .row (q + 1) true 1 (rowI C)), (24, .row (q + 1) true 1 (rowI R)), (22, O2)] ρ) (fun k2 ρ hi => ?_) (b.size + 1)
        ⟨0, by omega, List.replicate (b.size + 1) 0, ⟨List.length_replicate, fun k hk => absurd hk (Nat.not_lt_zero _)⟩, pinned_mk rfl ⟨rfl, rfl, rfl, rfl, rfl, trivial⟩ ⟨rfl, by rw [rowI_rep]; rfl, rfl, rfl, trivial⟩⟩
      clear g h
      obtain ⟨j, hm2, C, hC, hi⟩ := hi
      replace hi := hi.form
      obtain ⟨g, h, rfl⟩ := hi
      have hCl := hC.1
      have hD0 : (D.set (i + 1) (X.own 23 (q + 1) 0 (b.size + 1)))[i + 1]? = some (.own 23 (q + 1) 0 (b.size + 1)) := List.getElem?_set_self (by omega)
      have hN := hL.next (s0 := 23) (g0 := q + 1) (C := C) (by omega)
      refine wC_seq ?_
      refine wC_seq ?_
      refine wC_reg ?_
      refine wS_set rfl rfl rfl (a_move rfl rfl) ?_
      refine wS_set rfl rfl rfl (a_move rfl rfl) ?_
      refine wS_set rfl rfl rfl (a_lenStr rfl rfl (hT rfl) rfl) ?_
      refine wS_set rfl rfl rfl (n_leq (a := j) (b := b.size) rfl rfl) ?_
      refine wO_nil ?_
      refine wC_cond rfl (fun hc => ?_) (fun hc => ?_)
      · have hj : j ≤ b.size := of_decide_eq_true hc
        by_cases hj0 : j = 0
        · subst hj0
          refine wC_skip ?_
          refine wC_seq ?_
          refine wC_block ?_
          refine wC_seq ?_
          refine wC_seq ?_
          refine wC_reg ?_
          refine wS_set rfl rfl rfl (a_move rfl rfl) ?_
          refine wS_set rfl rfl rfl (n_eqlF (a := i + 1) (b := 0) (by omega) rfl rfl) ?_
          refine wS_set rfl rfl rfl (a_move rfl rfl) ?_
          refine wS_set rfl rfl rfl (a_move rfl rfl) ?_
          refine wS_set rfl rfl rfl (n_eqlT (a := 0) (b := 0) rfl rfl rfl) ?_
          refine wS_set rfl rfl rfl (a_pickF rfl rfl) ?_
          refine wO_nil ?_
          refine wC_cond (p := true) rfl (fun _ => ?_) (fun hc => absurd hc (by decide))
          refine wC_seq ?_
          refine wC_reg ?_
          refine wS_set rfl rfl rfl (a_move rfl rfl) ?_
          refine wS_set rfl rfl rfl (a_move rfl rfl) ?_
          refine wS_set rfl rfl rfl (n_indexAddrB (a := i + 1) rfl rfl (hT rfl) rfl (hT rfl) rfl (by omega)) ?_
          refine wS_set rfl rfl rfl (a_load1 rfl rfl (hT rfl) rfl hD0) ?_
          refine wS_set rfl rfl rfl (a_move rfl rfl) ?_
          refine wS_set rfl rfl rfl (a_move rfl rfl) ?_
          refine wS_set rfl rfl rfl (a_move rfl rfl) ?_
          refine wS_set rfl rfl rfl (n_add (a := i + 1) (b := 0) rfl rfl (by simp only [capN]; omega)) ?_
          refine wS_set rfl rfl rfl (n_indexAddrP (a := 0) rfl rfl rfl (hT rfl) rfl (hT rfl) rfl (by omega)) ?_
          refine wS_eff rfl rfl (a_storeR (v := i + 1 + 0) (by omega) rfl rfl rfl (hT rfl) rfl rfl) ?_
          refine wO_nil ?_
          refine wC_exit ?_
          refine wC_reg ?_
          refine wS_set rfl rfl rfl (a_move rfl rfl) ?_
          refine wS_set rfl rfl rfl (n_add (a := 0) (b := 1) rfl rfl (by simp only [capN]; omega)) ?_
          refine wS_set rfl rfl rfl (a_assign rfl rfl) ?_
          refine wO_nil ?_
          exact ⟨k2 - 1, by omega, 1, by omega, _, isRow_set hC (by omega) (by rw [osa_i0]), pinned_mk rfl ⟨rfl, rfl, rfl, rfl, rfl, trivial⟩ ⟨rfl, rfl, rfl, rfl, trivial⟩⟩
        · obtain ⟨j, rfl⟩ : ∃ l, j = l + 1 := ⟨j - 1, by omega⟩
          refine wC_skip ?_
          refine wC_seq ?_
          refine wC_block ?_
          refine wC_seq ?_
          refine wC_seq ?_
          refine wC_reg ?_
          refine wS_set rfl rfl rfl (a_move rfl rfl) ?_
          refine wS_set rfl rfl rfl (n_eqlF (a := i + 1) (b := 0) (by omega) rfl rfl) ?_
          refine wS_set rfl rfl rfl (a_move rfl rfl) ?_
          refine wS_set rfl rfl rfl (a_move rfl rfl) ?_
          refine wS_set rfl rfl rfl (n_eqlF (a := j + 1) (b := 0) (by omega) rfl rfl) ?_
          refine wS_set rfl rfl rfl (a_pickF rfl rfl) ?_
          refine wO_nil ?_
          refine wC_cond (p := false) rfl (fun hc => absurd hc (by decide)) (fun _ => ?_)
          refine wC_skip ?_
          refine round0 hla hlb (i := i) (j := j) (by omega) (by omega) hD0 (by rw [List.getElem?_set_ne (by omega)]; exact hL.at1)
            (fun h1 => (hL.at2 h1).elim fun A hA => ⟨A, hA.1, hA.2.1, by rw [List.getElem?_set_ne (by omega)]; exact hA.2.2⟩) hL.row hC (pinned_mk rfl ⟨rfl, rfl, rfl, rfl, rfl, trivial⟩ ⟨rfl, rfl, rfl, rfl, trivial⟩) (by kernel_rfl) fun C' ρ' hC' hρ => ?_
          clear g h
          replace hρ := hρ.form
          obtain ⟨g, h, rfl⟩ := hρ
          refine wC_reg ?_
          refine wS_set rfl rfl rfl (a_move rfl rfl) ?_
          refine wS_set rfl rfl rfl (n_add (b := 1) rfl rfl (by simp only [capN]; omega)) ?_
          refine wS_set rfl rfl rfl (a_assign rfl rfl) ?_
          refine wO_nil ?_
          exact ⟨k2 - 1, by omega, j + 1 + 1, by omega, C', hC', pinned_mk rfl ⟨rfl, rfl, rfl, rfl, rfl, trivial⟩ ⟨rfl, rfl, rfl, rfl, trivial⟩⟩
      · have hj : ¬ j ≤ b.size := of_decide_eq_false hc
        obtain rfl : j = b.size + 1 := by omega
        refine wC_exit ?_
        refine wC_reg ?_
        refine wS_set rfl rfl rfl (a_move rfl rfl) ?_
        refine wS_set rfl rfl rfl (n_add (b := 1) rfl rfl (by simp only [capN]; omega)) ?_
        refine wS_set rfl rfl rfl (a_assign rfl rfl) ?_
        refine wO_nil ?_
        exact ⟨k - 1, by omega, i + 1 + 1, by omega, _, by rw [List.length_set]; exact hD, .inr ⟨i + 1, q, C, _, O2, rfl, .inr (.inl ⟨by omega, hL.next (by omega) hC, pinned_mk rfl ⟨rfl, rfl, rfl, rfl, trivial⟩ ⟨rfl, rfl, rfl, rfl, trivial⟩⟩)⟩⟩
    · have hia : ¬ i + 1 ≤ a.size := of_decide_eq_false hc
      obtain rfl : i = a.size := by omega
      have hRl := hL.row.1
      have hat := hL.at1
      refine wC_exit ?_
      refine wC_seq ?_
      refine wC_reg ?_
      refine wS_set rfl rfl rfl (a_move rfl rfl) ?_
      refine wS_set rfl rfl rfl (a_move rfl rfl) ?_
      refine wS_set rfl rfl rfl (a_lenStr rfl rfl (hT rfl) rfl) ?_
      refine wS_set rfl rfl rfl (n_indexAddrB (a := a.size) rfl rfl (hT rfl) rfl (hT rfl) rfl (by omega)) ?_
      refine wS_set rfl rfl rfl (a_load1 rfl rfl (hT rfl) rfl hat) ?_
      refine wS_set rfl rfl rfl (a_move rfl rfl) ?_
      refine wS_set rfl rfl rfl (a_lenStr rfl rfl (hT rfl) rfl) ?_
      refine wS_set rfl rfl rfl (n_indexAddrP (a := b.size) rfl rfl rfl (hT rfl) rfl (hT rfl) rfl (by omega)) ?_
      refine wS_set rfl rfl rfl (a_loadI (by omega) rfl rfl (hT rfl) rfl) ?_
      refine wS_set rfl rfl rfl (a_assign rfl rfl) ?_
      refine wO_nil ?_
      refine wC_ret ?_
      rw [← hL.row.2 b.size (by omega)]
      exact end_tmp rfl rfl
  · obtain ⟨hq, hL, hi⟩ := hi
    replace hi := hi.form
    obtain ⟨g, h, rfl⟩ := hi
    refine wC_seq ?_
    refine wC_seq ?_
    refine wC_reg ?_
    refine wS_set rfl rfl rfl (a_move rfl rfl) ?_
    refine wS_set rfl rfl rfl (a_move rfl rfl) ?_
    refine wS_set rfl rfl rfl (a_lenStr rfl rfl (hT rfl) rfl) ?_
    refine wS_set rfl rfl rfl (n_leq (a := i + 1) (b := a.size) rfl rfl) ?_
    refine wO_nil ?_
    refine wC_cond rfl (fun hc => ?_) (fun hc => ?_)
    · have hia : i + 1 ≤ a.size := of_decide_eq_true hc
      refine wC_skip ?_
      refine wC_seq ?_
      refine wC_block ?_
      refine wC_seq ?_
      refine wC_reg ?_
      refine wS_set rfl rfl rfl (a_move rfl rfl) ?_
      refine wS_set rfl rfl rfl (a_move rfl rfl) ?_
      refine wS_set rfl rfl rfl (a_move rfl rfl) ?_
      refine wS_set rfl rfl rfl (a_lenStr rfl rfl (hT rfl) rfl) ?_
      refine wS_set rfl rfl rfl (n_add (a := b.size) (b := 1) rfl rfl (by simp only [capN]; omega)) ?_
      refine wS_set rfl rfl rfl (a_makeR (r := 22) (g0 := q + 1) (g1 := q + 1) (g2 := q) (s := 22) (g := q + 1) (n := b.size + 1) rfl rfl (hT rfl) rfl (hT rfl) rfl rfl (by simp only [big]; omega) rfl rfl hL.o2 rfl hL.o3 (.inr (.inr ⟨by omega, by omega, rfl, rfl⟩))) ?_
      refine wS_set rfl rfl rfl (n_indexAddrB (a := i + 1) rfl rfl (hT rfl) rfl (hT rfl) rfl (by omega)) ?_
      refine wS_eff rfl rfl (a_store1 rfl rfl rfl rfl rfl (hT rfl) rfl rfl (by omega)) ?_
      refine wO_nil ?_
      refine wC_seq ?_
      refine wC_reg ?_
      refine wS_set rfl rfl rfl (a_assign rfl rfl) ?_
      refine wO_nil ?_
      refine wC_block ?_
      refine wC_loop (fun k ρ => ∃ j, j + k = b.size + 1 ∧ ∃ C, isRow (b.size + 1) C (osa (at8 a) (at8 b) (i + 1)) j ∧ PinSt 153 [(0, .v (.lit (.string a))), (1, .v (.lit (.string b))), (5, .bsl 12 1 (a.size + 1)), (6, natX .i64 (i + 1)), (7, natX .i64 j)] [(12, .box 1 (D.set (i + 1) (.own 22 (q + 1) 0 (b.size + 1)))), (22, .row (q + 1) true 1 (rowI C)), (23, .row (q + 1) true 1 (rowI R)), (24, O2)] ρ) (fun k2 ρ hi => ?_) (b.size + 1)
        ⟨0, by omega, List.replicate (b.size + 1) 0, ⟨List.length_replicate, fun k hk => absurd hk (Nat.not_lt_zero _)⟩, pinned_mk rfl ⟨rfl, rfl, rfl, rfl, rfl, trivial⟩ ⟨rfl, by rw [rowI_rep]; rfl, rfl, rfl, trivial⟩⟩
      clear g h
      obtain ⟨j, hm2, C, hC, hi⟩ := hi
      replace hi := hi.form
      obtain ⟨g, h, rfl⟩ := hi
      have hCl := hC.1
      have hD0 : (D.set (i + 1) (X.own 22 (q + 1) 0 (b.size + 1)))[i + 1]? = some (.own 22 (q + 1) 0 (b.size + 1)) := List.getElem?_set_self (by omega)
      have hN := hL.next (s0 := 22) (g0 := q + 1) (C := C) (by omega)
      refine wC_seq ?_
      refine wC_seq ?_
      refine wC_reg ?_
      refine wS_set rfl rfl rfl (a_move rfl rfl) ?_
      refine wS_set rfl rfl rfl (a_move rfl rfl) ?_
      refine wS_set rfl rfl rfl (a_lenStr rfl rfl (hT rfl) rfl) ?_
      refine wS_set rfl rfl rfl (n_leq (a := j) (b := b.size) rfl rfl) ?_
      refine wO_nil ?_
      refine wC_cond rfl (fun hc => ?_) (fun hc => ?_)
      · have hj : j ≤ b.size := of_decide_eq_true hc
        by_cases hj0 : j = 0
        · subst hj0
          refine wC_skip ?_
          refine wC_seq ?_
          refine wC_block ?_
          refine wC_seq ?_
          refine wC_seq ?_
          refine wC_reg ?_
          refine wS_set rfl rfl rfl (a_move rfl rfl) ?_
          refine wS_set rfl rfl rfl (n_eqlF (a := i + 1) (b := 0) (by omega) rfl rfl) ?_
          refine wS_set rfl rfl rfl (a_move rfl rfl) ?_
          refine wS_set rfl rfl rfl (a_move rfl rfl) ?_
          refine wS_set rfl rfl rfl (n_eqlT (a := 0) (b := 0) rfl rfl rfl) ?_
          refine wS_set rfl rfl rfl (a_pickF rfl rfl) ?_
          refine wO_nil ?_
          refine wC_cond (p := true) rfl (fun _ => ?_) (fun hc => absurd hc (by decide))
          refine wC_seq ?_
          refine wC_reg ?_
          refine wS_set rfl rfl rfl (a_move rfl rfl) ?_
          refine wS_set rfl rfl rfl (a_move rfl rfl) ?_
          refine wS_set rfl rfl rfl (n_indexAddrB (a := i + 1) rfl rfl (hT rfl) rfl (hT rfl) rfl (by omega)) ?_
          refine wS_set rfl rfl rfl (a_load1 rfl rfl (hT rfl) rfl hD0) ?_
          refine wS_set rfl rfl rfl (a_move rfl rfl) ?_
          refine wS_set rfl rfl rfl (a_move rfl rfl) ?_
          refine wS_set rfl rfl rfl (a_move rfl rfl) ?_
          refine wS_set rfl rfl rfl (n_add (a := i + 1) (b := 0) rfl rfl (by simp only [capN]; omega)) ?_
          refine wS_set rfl rfl rfl (n_indexAddrP (a := 0) rfl rfl rfl (hT rfl) rfl (hT rfl) rfl (by omega)) ?_
          refine wS_eff rfl rfl (a_storeR (v := i + 1 + 0) (by omega) rfl rfl rfl (hT rfl) rfl rfl) ?_
          refine wO_nil ?_
          refine wC_exit ?_
          refine wC_reg ?_
          refine wS_set rfl rfl rfl (a_move rfl rfl) ?_
          refine wS_set rfl rfl rfl (n_add (a := 0) (b := 1) rfl rfl (by simp only [capN]; omega)) ?_
          refine wS_set rfl rfl rfl (a_assign rfl rfl) ?_
          refine wO_nil ?_
          exact ⟨k2 - 1, by omega, 1, by omega, _, isRow_set hC (by omega) (by rw [osa_i0]), pinned_mk rfl ⟨rfl, rfl, rfl, rfl, rfl, trivial⟩ ⟨rfl, rfl, rfl, rfl, trivial⟩⟩
        · obtain ⟨j, rfl⟩ : ∃ l, j = l + 1 := ⟨j - 1, by omega⟩
          refine wC_skip ?_
          refine wC_seq ?_
          refine wC_block ?_
          refine wC_seq ?_
          refine wC_seq ?_
          refine wC_reg ?_
          refine wS_set rfl rfl rfl (a_move rfl rfl) ?_
          refine wS_set rfl rfl rfl (n_eqlF (a := i + 1) (b := 0) (by omega) rfl rfl) ?_
          refine wS_set rfl rfl rfl (a_move rfl rfl) ?_
          refine wS_set rfl rfl rfl (a_move rfl rfl) ?_
          refine wS_set rfl rfl rfl (n_eqlF (a := j + 1) (b := 0) (by omega) rfl rfl) ?_
          refine wS_set rfl rfl rfl (a_pickF rfl rfl) ?_
          refine wO_nil ?_
          refine wC_cond (p := false) rfl (fun hc => absurd hc (by decide)) (fun _ => ?_)
          refine wC_skip ?_
          refine round1 hla hlb (i := i) (j := j) (by omega) (by omega) hD0 (by rw [List.getElem?_set_ne (by omega)]; exact hL.at1)
            (fun h1 => (hL.at2 h1).elim fun A hA => ⟨A, hA.1, hA.2.1, by rw [List.getElem?_set_ne (by omega)]; exact hA.2.2⟩) hL.row hC (pinned_mk rfl ⟨rfl, rfl, rfl, rfl, rfl, trivial⟩ ⟨rfl, rfl, rfl, rfl, trivial⟩) (by kernel_rfl) fun C' ρ' hC' hρ => ?_
          clear g h
          replace hρ := hρ.form
          obtain ⟨g, h, rfl⟩ := hρ
          refine wC_reg ?_
          refine wS_set rfl rfl rfl (a_move rfl rfl) ?_
          refine wS_set rfl rfl rfl (n_add (b := 1) rfl rfl (by simp only [capN]; omega)) ?_
          refine wS_set rfl rfl rfl (a_assign rfl rfl) ?_
          refine wO_nil ?_
          exact ⟨k2 - 1, by omega, j + 1 + 1, by omega, C', hC', pinned_mk rfl ⟨rfl, rfl, rfl, rfl, rfl, trivial⟩ ⟨rfl, rfl, rfl, rfl, trivial⟩⟩
      · have hj : ¬ j ≤ b.size := of_decide_eq_false hc
        obtain rfl : j = b.size + 1 := by omega
        refine wC_exit ?_
        refine wC_reg ?_
        refine wS_set rfl rfl rfl (a_move rfl rfl) ?_
        refine wS_set rfl rfl rfl (n_add (b := 1) rfl rfl (by simp only [capN]; omega)) ?_
        refine wS_set rfl rfl rfl (a_assign rfl rfl) ?_
        refine wO_nil ?_
        exact ⟨k - 1, by omega, i + 1 + 1, by omega, _, by rw [List.length_set]; exact hD, .inr ⟨i + 1, q, C, _, O2, rfl, .inr (.inr ⟨by omega, hL.next (by omega) hC, pinned_mk rfl ⟨rfl, rfl, rfl, rfl, trivial⟩ ⟨rfl, rfl, rfl, rfl, trivial⟩⟩)⟩⟩
    · have hia : ¬ i + 1 ≤ a.size := of_decide_eq_false hc
      obtain rfl : i = a.size := by omega
      have hRl := hL.row.1
      have hat := hL.at1
      refine wC_exit ?_
      refine wC_seq ?_
      refine wC_reg ?_
      refine wS_set rfl rfl rfl (a_move rfl rfl) ?_
      refine wS_set rfl rfl rfl (a_move rfl rfl) ?_
      refine wS_set rfl rfl rfl (a_lenStr rfl rfl (hT rfl) rfl) ?_
      refine wS_set rfl rfl rfl (n_indexAddrB (a := a.size) rfl rfl (hT rfl) rfl (hT rfl) rfl (by omega)) ?_
      refine wS_set rfl rfl rfl (a_load1 rfl rfl (hT rfl) rfl hat) ?_
      refine wS_set rfl rfl rfl (a_move rfl rfl) ?_
      refine wS_set rfl rfl rfl (a_lenStr rfl rfl (hT rfl) rfl) ?_
      refine wS_set rfl rfl rfl (n_indexAddrP (a := b.size) rfl rfl rfl (hT rfl) rfl (hT rfl) rfl (by omega)) ?_
      refine wS_set rfl rfl rfl (a_loadI (by omega) rfl rfl (hT rfl) rfl) ?_
      refine wS_set rfl rfl rfl (a_assign rfl rfl) ?_
      refine wO_nil ?_
      refine wC_ret ?_
      rw [← hL.row.2 b.size (by omega)]
      exact end_tmp rfl rfl
  · obtain ⟨hq, hL, hi⟩ := hi
    replace hi := hi.form
    obtain ⟨g, h, rfl⟩ := hi
    refine wC_seq ?_
    refine wC_seq ?_
    refine wC_reg ?_
    refine wS_set rfl rfl rfl (a_move rfl rfl) ?_
    refine wS_set rfl rfl rfl (a_move rfl rfl) ?_
    refine wS_set rfl rfl rfl (a_lenStr rfl rfl (hT rfl) rfl) ?_
    refine wS_set rfl rfl rfl (n_leq (a := i + 1) (b := a.size) rfl rfl) ?_
    refine wO_nil ?_
    refine wC_cond rfl (fun hc => ?_) (fun hc => ?_)
    · have hia : i + 1 ≤ a.size := of_decide_eq_true hc
      refine wC_skip ?_
      refine wC_seq ?_
      refine wC_block ?_
      refine wC_seq ?_
      refine wC_reg ?_
      refine wS_set rfl rfl rfl (a_move rfl rfl) ?_
      refine wS_set rfl rfl rfl (a_move rfl rfl) ?_
      refine wS_set rfl rfl rfl (a_move rfl rfl) ?_
      refine wS_set rfl rfl rfl (a_lenStr rfl rfl (hT rfl) rfl) ?_
      refine wS_set rfl rfl rfl (n_add (a := b.size) (b := 1) rfl rfl (by simp only [capN]; omega)) ?_
      refine wS_set rfl rfl rfl (a_makeR (r := 22) (g0 := q + 1) (g1 := q + 1) (g2 := q + 1) (s := 24) (g := q + 2) (n := b.size + 1) rfl rfl (hT rfl) rfl (hT rfl) rfl rfl (by simp only [big]; omega) rfl rfl hL.o3 hL.o2 rfl (.inl ⟨by omega, by omega, rfl, rfl⟩)) ?_
      refine wS_set rfl rfl rfl (n_indexAddrB (a := i + 1) rfl rfl (hT rfl) rfl (hT rfl) rfl (by omega)) ?_
      refine wS_eff rfl rfl (a_store1 rfl rfl rfl rfl rfl (hT rfl) rfl rfl (by omega)) ?_
      refine wO_nil ?_
      refine wC_seq ?_
      refine wC_reg ?_
      refine wS_set rfl rfl rfl (a_assign rfl rfl) ?_
      refine wO_nil ?_
      refine wC_block ?_
      refine wC_loop (fun k ρ => ∃ j, j + k = b.size + 1 ∧ ∃ C, isRow (b.size + 1) C (osa (at8 a) (at8 b) (i + 1)) j ∧ PinSt 153 [(0, .v (.lit (.string a))), (1, .v (.lit (.string b))), (5, .bsl 12 1 (a.size + 1)), (6, natX .i64 (i + 1)), (7, natX .i64 j)] [(12, .box 1 (D.set (i + 1) (.own 24 (q + 2) 0 (b.size + 1)))), (24, .row (q + 2) true 1 (rowI C)), (22, .row (q + 1) true 1 (rowI R)), (23, O2)] ρ) (fun k2 ρ hi => ?_) (b.size + 1)
        ⟨0, by omega, List.replicate (b.size + 1) 0, ⟨List.length_replicate, fun k hk => absurd hk (Nat.not_lt_zero _)⟩, pinned_mk rfl ⟨rfl, rfl, rfl, rfl, rfl, trivial⟩ ⟨rfl, by rw [rowI_rep]; rfl, rfl, rfl, trivial⟩⟩
      clear g h
      obtain ⟨j, hm2, C, hC, hi⟩ := hi
      replace hi := hi.form
      obtain ⟨g, h, rfl⟩ := hi
      have hCl := hC.1
      have hD0 : (D.set (i + 1) (X.own 24 (q + 2) 0 (b.size + 1)))[i + 1]? = some (.own 24 (q + 2) 0 (b.size + 1)) := List.getElem?_set_self (by omega)
      have hN := hL.next (s0 := 24) (g0 := q + 2) (C := C) (by omega)
      refine wC_seq ?_
      refine wC_seq ?_
      refine wC_reg ?_
      refine wS_set rfl rfl rfl (a_move rfl rfl) ?_
      refine wS_set rfl rfl rfl (a_move rfl rfl) ?_
      refine wS_set rfl rfl rfl (a_lenStr rfl rfl (hT rfl) rfl) ?_
      refine wS_set rfl rfl rfl (n_leq (a := j) (b := b.size) rfl rfl) ?_
      refine wO_nil ?_
      refine wC_cond rfl (fun hc => ?_) (fun hc => ?_)
      · have hj : j ≤ b.size := of_decide_eq_true hc
        by_cases hj0 : j = 0
        · subst hj0
          refine wC_skip ?_
          refine wC_seq ?_
          refine wC_block ?_
          refine wC_seq ?_
          refine wC_seq ?_
          refine wC_reg ?_
          refine wS_set rfl rfl rfl (a_move rfl rfl) ?_
          refine wS_set rfl rfl rfl (n_eqlF (a := i + 1) (b := 0) (by omega) rfl rfl) ?_
          refine wS_set rfl rfl rfl (a_move rfl rfl) ?_
          refine wS_set rfl rfl rfl (a_move rfl rfl) ?_
          refine wS_set rfl rfl rfl (n_eqlT (a := 0) (b := 0) rfl rfl rfl) ?_
          refine wS_set rfl rfl rfl (a_pickF rfl rfl) ?_
          refine wO_nil ?_
          refine wC_cond (p := true) rfl (fun _ => ?_) (fun hc => absurd hc (by decide))
          refine wC_seq ?_
          refine wC_reg ?_
          refine wS_set rfl rfl rfl (a_move rfl rfl) ?_
          refine wS_set rfl rfl rfl (a_move rfl rfl) ?_
          refine wS_set rfl rfl rfl (n_indexAddrB (a := i + 1) rfl rfl (hT rfl) rfl (hT rfl) rfl (by omega)) ?_
          refine wS_set rfl rfl rfl (a_load1 rfl rfl (hT rfl) rfl hD0) ?_
          refine wS_set rfl rfl rfl (a_move rfl rfl) ?_
          refine wS_set rfl rfl rfl (a_move rfl rfl) ?_
          refine wS_set rfl rfl rfl (a_move rfl rfl) ?_
          refine wS_set rfl rfl rfl (n_add (a := i + 1) (b := 0) rfl rfl (by simp only [capN]; omega)) ?_
          refine wS_set rfl rfl rfl (n_indexAddrP (a := 0) rfl rfl rfl (hT rfl) rfl (hT rfl) rfl (by omega)) ?_
          refine wS_eff rfl rfl (a_storeR (v := i + 1 + 0) (by omega) rfl rfl rfl (hT rfl) rfl rfl) ?_
          refine wO_nil ?_
          refine wC_exit ?_
          refine wC_reg ?_
          refine wS_set rfl rfl rfl (a_move rfl rfl) ?_
          refine wS_set rfl rfl rfl (n_add (a := 0) (b := 1) rfl rfl (by simp only [capN]; omega)) ?_
          refine wS_set rfl rfl rfl (a_assign rfl rfl) ?_
          refine wO_nil ?_
          exact ⟨k2 - 1, by omega, 1, by omega, _, isRow_set hC (by omega) (by rw [osa_i0]), pinned_mk rfl ⟨rfl, rfl, rfl, rfl, rfl, trivial⟩ ⟨rfl, rfl, rfl, rfl, trivial⟩⟩
        · obtain ⟨j, rfl⟩ : ∃ l, j = l + 1 := ⟨j - 1, by omega⟩
          refine wC_skip ?_
          refine wC_seq ?_
          refine wC_block ?_
          refine wC_seq ?_
          refine wC_seq ?_
          refine wC_reg ?_
          refine wS_set rfl rfl rfl (a_move rfl rfl) ?_
          refine wS_set rfl rfl rfl (n_eqlF (a := i + 1) (b := 0) (by omega) rfl rfl) ?_
          refine wS_set rfl rfl rfl (a_move rfl rfl) ?_
          refine wS_set rfl rfl rfl (a_move rfl rfl) ?_
          refine wS_set rfl rfl rfl (n_eqlF (a := j + 1) (b := 0) (by omega) rfl rfl) ?_
          refine wS_set rfl rfl rfl (a_pickF rfl rfl) ?_
          refine wO_nil ?_
          refine wC_cond (p := false) rfl (fun hc => absurd hc (by decide)) (fun _ => ?_)
          refine wC_skip ?_
          refine round2 hla hlb (i := i) (j := j) (by omega) (by omega) hD0 (by rw [List.getElem?_set_ne (by omega)]; exact hL.at1)
            (fun h1 => (hL.at2 h1).elim fun A hA => ⟨A, hA.1, hA.2.1, by rw [List.getElem?_set_ne (by omega)]; exact hA.2.2⟩) hL.row hC (pinned_mk rfl ⟨rfl, rfl, rfl, rfl, rfl, trivial⟩ ⟨rfl, rfl, rfl, rfl, trivial⟩) (by kernel_rfl) fun C' ρ' hC' hρ => ?_
          clear g h
          replace hρ := hρ.form
          obtain ⟨g, h, rfl⟩ := hρ
          refine wC_reg ?_
          refine wS_set rfl rfl rfl (a_move rfl rfl) ?_
          refine wS_set rfl rfl rfl (n_add (b := 1) rfl rfl (by simp only [capN]; omega)) ?_
          refine wS_set rfl rfl rfl (a_assign rfl rfl) ?_
          refine wO_nil ?_
          exact ⟨k2 - 1, by omega, j + 1 + 1, by omega, C', hC', pinned_mk rfl ⟨rfl, rfl, rfl, rfl, rfl, trivial⟩ ⟨rfl, rfl, rfl, rfl, trivial⟩⟩
      · have hj : ¬ j ≤ b.size := of_decide_eq_false hc
        obtain rfl : j = b.size + 1 := by omega
        refine wC_exit ?_
        refine wC_reg ?_
        refine wS_set rfl rfl rfl (a_move rfl rfl) ?_
        refine wS_set rfl rfl rfl (n_add (b := 1) rfl rfl (by simp only [capN]; omega)) ?_
        refine wS_set rfl rfl rfl (a_assign rfl rfl) ?_
        refine wO_nil ?_
        exact ⟨k - 1, by omega, i + 1 + 1, by omega, _, by rw [List.length_set]; exact hD, .inr ⟨i + 1, q + 1, C, _, O2, rfl, .inl ⟨by omega, hL.next (by omega) hC, pinned_mk rfl ⟨rfl, rfl, rfl, rfl, trivial⟩ ⟨rfl, rfl, rfl, rfl, trivial⟩⟩⟩⟩
    · have hia : ¬ i + 1 ≤ a.size := of_decide_eq_false hc
      obtain rfl : i = a.size := by omega
      have hRl := hL.row.1
      have hat := hL.at1
      refine wC_exit ?_
      refine wC_seq ?_
      refine wC_reg ?_
      refine wS_set rfl rfl rfl (a_move rfl rfl) ?_
      refine wS_set rfl rfl rfl (a_move rfl rfl) ?_
      refine wS_set rfl rfl rfl (a_lenStr rfl rfl (hT rfl) rfl) ?_
      refine wS_set rfl rfl rfl (n_indexAddrB (a := a.size) rfl rfl (hT rfl) rfl (hT rfl) rfl (by omega)) ?_
      refine wS_set rfl rfl rfl (a_load1 rfl rfl (hT rfl) rfl hat) ?_
      refine wS_set rfl rfl rfl (a_move rfl rfl) ?_
      refine wS_set rfl rfl rfl (a_lenStr rfl rfl (hT rfl) rfl) ?_
      refine wS_set rfl rfl rfl (n_indexAddrP (a := b.size) rfl rfl rfl (hT rfl) rfl (hT rfl) rfl (by omega)) ?_
      refine wS_set rfl rfl rfl (a_loadI (by omega) rfl rfl (hT rfl) rfl) ?_
      refine wS_set rfl rfl rfl (a_assign rfl rfl) ?_
      refine wO_nil ?_
      refine wC_ret ?_
      rw [← hL.row.2 b.size (by omega)]
      exact end_tmp rfl rfl

set_option maxRecDepth 100000 in
theorem ev3 {a b : ByteArray} : FnEv tab ext 3 [.v (strV a), .v (strV b)] [] (.ret [boolV true], []) := by
  refine fn_go _ no3 fn3 rfl rfl rfl ?_
  by_cases h1 : a.size > 30
  · refine wC_seq ?_
    refine wC_reg ?_
    refine wS_set rfl rfl rfl (a_assign rfl rfl) ?_
    refine wO_nil ?_
    refine wC_seq ?_
    refine wC_seq ?_
    refine wC_reg ?_
    refine wS_set rfl rfl rfl (a_move rfl rfl) ?_
    refine wS_set rfl rfl rfl (a_lenStr rfl rfl (hT rfl) rfl) ?_
    refine wS_set rfl rfl rfl (n_gtrT (a := a.size) (b := 30) h1 rfl rfl) ?_
    refine wS_set rfl rfl rfl (a_move rfl rfl) ?_
    refine wS_skip rfl rfl rfl ?_
    refine wS_skip rfl rfl rfl ?_
    refine wS_skip rfl rfl rfl ?_
    refine wS_set rfl rfl rfl (a_pickT rfl rfl) ?_
    refine wO_nil ?_
    refine wC_cond (p := true) rfl (fun _ => ?_) (fun hc => absurd hc (by decide))
    refine wC_seq ?_
    refine wC_reg ?_
    refine wS_set rfl rfl rfl (a_call rfl rfl fn6 rfl rfl (ev6)) ?_
    refine wS_set rfl rfl rfl (a_assign rfl rfl) ?_
    refine wO_nil ?_
    refine wC_ret ?_
    exact end_tmp rfl rfl
  by_cases h2 : b.size > 30
  · refine wC_seq ?_
    refine wC_reg ?_
    refine wS_set rfl rfl rfl (a_assign rfl rfl) ?_
    refine wO_nil ?_
    refine wC_seq ?_
    refine wC_seq ?_
    refine wC_reg ?_
    refine wS_set rfl rfl rfl (a_move rfl rfl) ?_
    refine wS_set rfl rfl rfl (a_lenStr rfl rfl (hT rfl) rfl) ?_
    refine wS_set rfl rfl rfl (n_gtrF (a := a.size) (b := 30) h1 rfl rfl) ?_
    refine wS_set rfl rfl rfl (a_move rfl rfl) ?_
    refine wS_set rfl rfl rfl (a_move rfl rfl) ?_
    refine wS_set rfl rfl rfl (a_lenStr rfl rfl (hT rfl) rfl) ?_
    refine wS_set rfl rfl rfl (n_gtrT (a := b.size) (b := 30) h2 rfl rfl) ?_
    refine wS_set rfl rfl rfl (a_pickF rfl rfl) ?_
    refine wO_nil ?_
    refine wC_cond (p := true) rfl (fun _ => ?_) (fun hc => absurd hc (by decide))
    refine wC_seq ?_
    refine wC_reg ?_
    refine wS_set rfl rfl rfl (a_call rfl rfl fn6 rfl rfl (ev6)) ?_
    refine wS_set rfl rfl rfl (a_assign rfl rfl) ?_
    refine wO_nil ?_
    refine wC_ret ?_
    exact end_tmp rfl rfl
  refine wC_seq ?_
  refine wC_reg ?_
  refine wS_set rfl rfl rfl (a_assign rfl rfl) ?_
  refine wO_nil ?_
  refine wC_seq ?_
  refine wC_seq ?_
  refine wC_reg ?_
  refine wS_set rfl rfl rfl (a_move rfl rfl) ?_
  refine wS_set rfl rfl rfl (a_lenStr rfl rfl (hT rfl) rfl) ?_
  refine wS_set rfl rfl rfl (n_gtrF (a := a.size) (b := 30) h1 rfl rfl) ?_
  refine wS_set rfl rfl rfl (a_move rfl rfl) ?_
  refine wS_set rfl rfl rfl (a_move rfl rfl) ?_
  refine wS_set rfl rfl rfl (a_lenStr rfl rfl (hT rfl) rfl) ?_
  refine wS_set rfl rfl rfl (n_gtrF (a := b.size) (b := 30) h2 rfl rfl) ?_
  refine wS_set rfl rfl rfl (a_pickF rfl rfl) ?_
  refine wO_nil ?_
  refine wC_cond (p := false) rfl (fun hc => absurd hc (by decide)) (fun _ => ?_)
  refine wC_skip ?_
  refine wC_seq ?_
  refine wC_reg ?_
  refine wS_set rfl rfl rfl (a_call rfl rfl fn6 rfl rfl (ev6)) ?_
  refine wS_set rfl rfl rfl (a_move rfl rfl) ?_
  refine wS_set rfl rfl rfl (a_move rfl rfl) ?_
  refine wS_set rfl rfl rfl (a_move rfl rfl) ?_
  refine wS_set rfl rfl rfl (a_call rfl rfl fn7 rfl rfl (ev7 (by omega) (by omega))) ?_
  refine wS_set rfl rfl rfl (a_move rfl rfl) ?_
  refine wS_set rfl rfl rfl (a_move rfl rfl) ?_
  refine wS_set rfl rfl rfl (a_call rfl rfl fn8 rfl rfl (ev8 (by omega) (by omega))) ?_
  refine wS_set rfl rfl rfl (n_eqlT (a := osa (at8 a) (at8 b) a.size b.size) (b := osa (at8 a) (at8 b) a.size b.size) rfl rfl rfl) ?_
  refine wS_set rfl rfl rfl (a_pickT rfl rfl) ?_
  refine wS_set rfl rfl rfl (a_assign rfl rfl) ?_
  refine wO_nil ?_
  refine wC_ret ?_
  exact end_tmp rfl rfl

end Go.Proofs.Ytmmgcodoimpklaa
