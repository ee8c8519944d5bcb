/-
  What is proved here: the law over the evaluator. Conditions: those that stand at each theorem.
-/
import Derived.Test.YtjppkpjlbbkdnaaDoorWalkC

namespace Go.Proofs.YtjppkpjlbbkdnaaDoor
open Go Go.Dv

set_option maxRecDepth 100000 in
set_option maxHeartbeats 4000000 in
theorem ev24 {B : Nat} (hB : B ≤ 2147483648) {r : Rx} {s : ByteArray} (hg : r.good B) (hs : s.size ≤ 2147483648) : FnEv tab ext 24 [.v (rxV r), .v (strV s)] [] (.ret [boolV (nul (derL (bl s) r))], []) := by
  have hw := hg.wf
  have hbl := bl_len s
  have e0 := rowP_rep (s.size + 1)
  have hst : ((List.replicate (s.size + 1) false).set 0 true).length = s.size + 1 := by simp
  have em := match_ends r (bl s)
  rw [hbl] at em
  have hol := semOut_len (Mat r) (bl s) ((List.replicate (s.size + 1) false).set 0 true)
  rw [← em]
  refine fn_go _ no24 fn24 rfl rfl rfl ?_
  refine wC_seq ?_
  refine wC_reg ?_
  refine wS_set rfl rfl rfl (a_boxRx (by assumption) rfl (hT rfl) rfl rfl rfl) ?_
  refine wS_set rfl rfl rfl (a_assign rfl rfl) ?_
  refine wO_nil ?_
  refine wC_seq ?_
  refine wC_reg ?_
  refine wS_set rfl rfl rfl (a_move rfl rfl) ?_
  refine wS_set rfl rfl rfl (a_lenStr rfl rfl (hT rfl) rfl) ?_
  refine wS_set rfl rfl rfl (n_add (b := 1) rfl rfl (by simp only [capN]; omega)) ?_
  refine wS_set rfl rfl rfl (a_make (n := s.size + 1) rfl rfl (hT rfl) rfl (hT rfl) rfl rfl (by simp only [big]; omega) rfl rfl) ?_
  refine wS_set rfl rfl rfl (a_assign rfl rfl) ?_
  refine wO_nil ?_
  refine wC_seq ?_
  refine wC_reg ?_
  refine wS_set rfl rfl rfl (a_move rfl rfl) ?_
  refine wS_set rfl rfl rfl (n_indexAddrP (a := 0) rfl rfl rfl (hT rfl) rfl (hT rfl) rfl (by omega)) ?_
  refine wS_eff rfl rfl (a_storeI rfl rfl rfl rfl ⟨boolV false, by rw [List.getElem?_replicate, if_pos (by omega)]; rfl⟩ (hT rfl) rfl rfl) ?_
  refine wO_nil ?_
  refine wC_seq ?_
  refine wC_reg ?_
  refine wS_set rfl rfl rfl (a_loadRx (by assumption) rfl rfl (hT rfl) rfl rfl) ?_
  refine wS_set rfl rfl rfl (a_move rfl rfl) ?_
  refine wS_set rfl rfl rfl (a_move rfl rfl) ?_
  refine wS_callS3 (es := rowP ((List.replicate (s.size + 1) false).set 0 true)) (s0 := 10) (.inr (.inr (.inr ⟨1, by rw [rowP_len, hst]; rfl, by rw [← rowP_set, ← e0]; rfl⟩))) rfl rfl rfl fn43 rfl (fun y2 hy2 => ev43 hB r hg s _ y2 hs hst hy2) rfl rfl rfl rfl rfl (fun rd16 => ?_)
  refine wS_set rfl rfl rfl (a_assign rfl rfl) ?_
  refine wO_nil ?_
  refine wC_seq ?_
  refine wC_reg ?_
  refine wS_set rfl rfl rfl (a_move rfl rfl) ?_
  refine wS_set rfl rfl rfl (a_move rfl rfl) ?_
  refine wS_set rfl rfl rfl (a_lenStr rfl rfl (hT rfl) rfl) ?_
  refine wS_set rfl rfl rfl (n_indexAddrV (a := s.size) rfl rfl (hT rfl) rfl (hT rfl) rfl (rowP_at (by omega))) ?_
  refine wS_set rfl rfl rfl (a_loadR1 rfl (hT rfl) rfl rfl) ?_
  refine wS_set rfl rfl rfl (a_assign rfl rfl) ?_
  refine wO_nil ?_
  refine wC_ret ?_
  exact end_tmp rfl rfl
def mB (s : ByteArray) (r : Rx) : Bool := nul (derL (bl s) r)
theorem size_e : (⟨#[]⟩ : ByteArray).size = 0 := rfl
theorem evX {r : Rx} {s : ByteArray} {B : Nat} (hB : B ≤ 2147483648) (h2 : 2 ≤ B) (hg : r.good B) (h : NB (subs r).length s.size ≤ B) (hs : s.size ≤ 2147483648) : FnEv tab ext 23 [.v (rxV r), .v (strV s)] [] (.ret [boolV (mB s r)], []) :=
  ev23 hB h2 hg hs (okW_of (by rw [bl_len]; exact h))
theorem evY {r : Rx} {s : ByteArray} {B : Nat} (hB : B ≤ 2147483648) (hg : r.good B) (hs : s.size ≤ 2147483648) : FnEv tab ext 24 [.v (rxV r), .v (strV s)] [] (.ret [boolV (mB s r)], []) := ev24 hB hg hs
set_option maxRecDepth 100000 in
set_option maxHeartbeats 4000000 in
theorem ev7 {r : Rx} {s : ByteArray} (hw : r.wf maxLen) : FnEv tab ext 7 [.v (rxV r), .v (strV s)] [] (.ret [boolV true], []) := by
  refine fn_go _ no7 fn7 rfl rfl rfl ?_
  have k := ev19 (m := 40) hw (by omega)
  cases hsm : smallR r 40 with
  | false =>
    rw [hsm] at k
    refine wC_seq ?_
    refine wC_reg ?_
    refine wS_set rfl rfl rfl (a_boxRx (by assumption) rfl (hT rfl) rfl rfl rfl) ?_
    refine wS_set rfl rfl rfl (a_assign rfl rfl) ?_
    refine wO_nil ?_
    refine wC_seq ?_
    refine wC_seq ?_
    refine wC_reg ?_
    refine wS_set rfl rfl rfl (a_loadRx (by assumption) rfl rfl (hT rfl) rfl rfl) ?_
    refine wS_set rfl rfl rfl (a_call rfl rfl fn19 rfl rfl (k)) ?_
    refine wS_set rfl rfl rfl (a_un rfl rfl) ?_
    refine wS_set rfl rfl rfl (a_move rfl rfl) ?_
    refine wS_skip rfl rfl rfl ?_
    refine wS_skip rfl rfl rfl ?_
    refine wS_skip rfl rfl rfl ?_
    refine wS_set rfl rfl rfl (a_pickT rfl rfl) ?_
    refine wO_nil ?_
    refine wC_cond (p := true) rfl (fun _ => ?_) (fun hc => absurd hc (by decide))
    refine wC_seq ?_
    refine wC_reg ?_
    refine wS_set rfl rfl rfl (a_call rfl rfl fn13 rfl rfl (ev13)) ?_
    refine wS_set rfl rfl rfl (a_assign rfl rfl) ?_
    refine wO_nil ?_
    refine wC_ret ?_
    exact end_tmp rfl rfl
  | true =>
    rw [hsm] at k
    by_cases hs : s.size ≤ 12
    · obtain ⟨h1, h2⟩ := smallR_is hsm
      have hg : r.good 2147483648 := validR_good r h2 hw (by omega)
      have hnb : NB (subs r).length s.size ≤ 2147483648 := Nat.le_trans (NB_mono h1 hs) (by decide)
      have kx := evX (Nat.le_refl _) (by omega) hg hnb (by omega)
      have ky := evY (Nat.le_refl _) hg (show s.size ≤ 2147483648 by omega)
      have kn := ev25 (B := 2147483648) (by omega) r hg.wf
      have ke : FnEv tab ext 24 [.v (rxV r), .v (.lit (.string ⟨#[]⟩))] [] (.ret [boolV (nul r)], []) := evY (Nat.le_refl _) hg (show (⟨#[]⟩ : ByteArray).size ≤ 2147483648 by rw [size_e]; omega)
      refine wC_seq ?_
      refine wC_reg ?_
      refine wS_set rfl rfl rfl (a_boxRx (by assumption) rfl (hT rfl) rfl rfl rfl) ?_
      refine wS_set rfl rfl rfl (a_assign rfl rfl) ?_
      refine wO_nil ?_
      refine wC_seq ?_
      refine wC_seq ?_
      refine wC_reg ?_
      refine wS_set rfl rfl rfl (a_loadRx (by assumption) rfl rfl (hT rfl) rfl rfl) ?_
      refine wS_set rfl rfl rfl (a_call rfl rfl fn19 rfl rfl (k)) ?_
      refine wS_set rfl rfl rfl (a_un rfl rfl) ?_
      refine wS_set rfl rfl rfl (a_move rfl rfl) ?_
      refine wS_set rfl rfl rfl (a_move rfl rfl) ?_
      refine wS_set rfl rfl rfl (a_lenStr rfl rfl (hT rfl) rfl) ?_
      refine wS_set rfl rfl rfl (b_gtr (p := false) (b := 12) rfl rfl (decide_eq_false (by omega))) ?_
      refine wS_set rfl rfl rfl (a_pickF rfl rfl) ?_
      refine wO_nil ?_
      refine wC_cond (p := false) rfl (fun hc => absurd hc (by decide)) (fun _ => ?_)
      refine wC_skip ?_
      refine wC_seq ?_
      refine wC_regD (by kernel_rfl) ?_
      refine wS_set rfl rfl rfl (a_call rfl rfl fn13 rfl rfl (ev13)) ?_
      refine wS_set rfl rfl rfl (a_move rfl rfl) ?_
      refine wS_set rfl rfl rfl (a_loadRx (by assumption) rfl rfl (hT rfl) rfl rfl) ?_
      refine wS_set rfl rfl rfl (a_move rfl rfl) ?_
      refine wS_set rfl rfl rfl (a_call rfl rfl fn23 rfl rfl (kx)) ?_
      refine wS_set rfl rfl rfl (a_loadRx (by assumption) rfl rfl (hT rfl) rfl rfl) ?_
      refine wS_set rfl rfl rfl (a_move rfl rfl) ?_
      refine wS_set rfl rfl rfl (a_call rfl rfl fn24 rfl rfl (ky)) ?_
      refine wS_set rfl rfl rfl (a_binBe rfl rfl (hT rfl) rfl (beq_self_eq_true _)) ?_
      refine wS_set rfl rfl rfl (a_pickT rfl rfl) ?_
      refine wS_set rfl rfl rfl (a_move rfl rfl) ?_
      refine wS_set rfl rfl rfl (a_loadRx (by assumption) rfl rfl (hT rfl) rfl rfl) ?_
      refine wS_set rfl rfl rfl (a_call rfl rfl fn25 rfl rfl (kn)) ?_
      refine wS_set rfl rfl rfl (a_loadRx (by assumption) rfl rfl (hT rfl) rfl rfl) ?_
      refine wS_set rfl rfl rfl (a_call rfl rfl fn24 rfl rfl (ke)) ?_
      refine wS_set rfl rfl rfl (a_binBe rfl rfl (hT rfl) rfl (beq_self_eq_true _)) ?_
      refine wS_set rfl rfl rfl (a_pickT rfl rfl) ?_
      refine wS_set rfl rfl rfl (a_assign rfl rfl) ?_
      refine wO_nil ⟨rfl, by kernel_rfl, ?_⟩
      refine wC_ret ?_
      exact end_tmp rfl rfl
    · refine wC_seq ?_
      refine wC_reg ?_
      refine wS_set rfl rfl rfl (a_boxRx (by assumption) rfl (hT rfl) rfl rfl rfl) ?_
      refine wS_set rfl rfl rfl (a_assign rfl rfl) ?_
      refine wO_nil ?_
      refine wC_seq ?_
      refine wC_seq ?_
      refine wC_reg ?_
      refine wS_set rfl rfl rfl (a_loadRx (by assumption) rfl rfl (hT rfl) rfl rfl) ?_
      refine wS_set rfl rfl rfl (a_call rfl rfl fn19 rfl rfl (k)) ?_
      refine wS_set rfl rfl rfl (a_un rfl rfl) ?_
      refine wS_set rfl rfl rfl (a_move rfl rfl) ?_
      refine wS_set rfl rfl rfl (a_move rfl rfl) ?_
      refine wS_set rfl rfl rfl (a_lenStr rfl rfl (hT rfl) rfl) ?_
      refine wS_set rfl rfl rfl (b_gtr (p := true) (b := 12) rfl rfl (decide_eq_true (by omega))) ?_
      refine wS_set rfl rfl rfl (a_pickF rfl rfl) ?_
      refine wO_nil ?_
      refine wC_cond (p := true) rfl (fun _ => ?_) (fun hc => absurd hc (by decide))
      refine wC_seq ?_
      refine wC_reg ?_
      refine wS_set rfl rfl rfl (a_call rfl rfl fn13 rfl rfl (ev13)) ?_
      refine wS_set rfl rfl rfl (a_assign rfl rfl) ?_
      refine wO_nil ?_
      refine wC_ret ?_
      exact end_tmp rfl rfl

end Go.Proofs.YtjppkpjlbbkdnaaDoor
