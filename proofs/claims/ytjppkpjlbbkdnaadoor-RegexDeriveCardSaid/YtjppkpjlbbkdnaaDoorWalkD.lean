/-
  What is proved here: the law over the evaluator. Conditions: those that stand at each theorem.
-/
import Derived.Test.YtjppkpjlbbkdnaaDoorWalkC

namespace Go.Proofs.YtjppkpjlbbkdnaaDoor
open Go Go.Dv

set_option maxRecDepth 100000 in
set_option maxHeartbeats 4000000 in
theorem ev24 {B : Nat} (hB : B ≤ 2147483648) {r : Rx} {s : ByteArray} (hg : r.good B) (hs : s.size ≤ 2147483648) : FnEv tab ext 24 [.v (rxV r), .v (strV s)] [] (.ret [boolV (nul (derL (bl s) r))], []) := by
  have hw := hg.wf
  have hbl := bl_len s
  have e0 := rowP_rep (s.size + 1)
  have hst : ((List.replicate (s.size + 1) false).set 0 true).length = s.size + 1 := by simp
  have em := match_ends r (bl s)
  rw [hbl] at em
  have hol := semOut_len (Mat r) (bl s) ((List.replicate (s.size + 1) false).set 0 true)
  rw [← em]
  refine fn_go _ no24 fn24 rfl rfl rfl ?_
  refine wC_seq ?_
  refine wC_reg ?_
  refine wS_set rfl rfl rfl (a_boxRx (by assumption) rfl (hT rfl) rfl rfl rfl) ?_
  refine wS_set rfl rfl rfl (a_assign rfl rfl) ?_
  refine wO_nil ?_
  refine wC_seq ?_
  refine wC_reg ?_
  refine wS_set rfl rfl rfl (a_move rfl rfl) ?_
  refine wS_set rfl rfl rfl (a_lenStr rfl rfl (hT rfl) rfl) ?_
  refine wS_set rfl rfl rfl (n_add (b := 1) rfl rfl (by simp only [capN]; omega)) ?_
  refine wS_set rfl rfl rfl (a_make (n := s.size + 1) rfl rfl (hT rfl) rfl (hT rfl) rfl rfl (by simp only [big]; omega) rfl rfl) ?_
  refine wS_set rfl rfl rfl (a_assign rfl rfl) ?_
  refine wO_nil ?_
  refine wC_seq ?_
  refine wC_reg ?_
  refine wS_set rfl rfl rfl (a_move rfl rfl) ?_
  refine wS_set rfl rfl rfl (n_indexAddrP (a := 0) rfl rfl rfl (hT rfl) rfl (hT rfl) rfl (by omega)) ?_
  refine wS_eff rfl rfl (a_storeI rfl rfl rfl rfl ⟨boolV false, by rw [List.getElem?_replicate, if_pos (by omega)]; rfl⟩ (hT rfl) rfl rfl) ?_
  refine wO_nil ?_
  refine wC_seq ?_
  refine wC_reg ?_
  refine wS_set rfl rfl rfl (a_loadRx (by assumption) rfl rfl (hT rfl) rfl rfl) ?_
  refine wS_set rfl rfl rfl (a_move rfl rfl) ?_
  refine wS_set rfl rfl rfl (a_move rfl rfl) ?_
  refine wS_callS3 (es := rowP ((List.replicate (s.size + 1) false).set 0 true)) (s0 := 10) (.inr (.inr (.inr ⟨1, by rw [rowP_len, hst]; rfl, by rw [← rowP_set, ← e0]; rfl⟩))) rfl rfl rfl fn43 rfl (fun y2 hy2 => ev43 hB r hg s _ y2 hs hst hy2) rfl rfl rfl rfl rfl (fun rd16 => ?_)
  refine wS_set rfl rfl rfl (a_assign rfl rfl) ?_
  refine wO_nil ?_
  refine wC_seq ?_
  refine wC_reg ?_
  refine wS_set rfl rfl rfl (a_move rfl rfl) ?_
  refine wS_set rfl rfl rfl (a_move rfl rfl) ?_
  refine wS_set rfl rfl rfl (a_lenStr rfl rfl (hT rfl) rfl) ?_
  refine wS_set rfl rfl rfl (n_indexAddrV (a := s.size) rfl rfl (hT rfl) rfl (hT rfl) rfl (rowP_at (by omega))) ?_
  refine wS_set rfl rfl rfl (a_loadR1 rfl (hT rfl) rfl rfl) ?_
  refine wS_set rfl rfl rfl (a_assign rfl rfl) ?_
  refine wO_nil ?_
  refine wC_ret ?_
  exact end_tmp rfl rfl
def mB (s : ByteArray) (r : Rx) : Bool := nul (derL (bl s) r)
theorem size_e : (⟨#[]⟩ : ByteArray).size = 0 := rfl
theorem evX {r : Rx} {s : ByteArray} {B : Nat} (hB : B ≤ 2147483648) (h2 : 2 ≤ B) (hg : r.good B) (h : NB (subs r).length s.size ≤ B) (hs : s.size ≤ 2147483648) : FnEv tab ext 23 [.v (rxV r), .v (strV s)] [] (.ret [boolV (mB s r)], []) :=
  ev23 hB h2 hg hs (okW_of (by rw [bl_len]; exact h))
theorem evY {r : Rx} {s : ByteArray} {B : Nat} (hB : B ≤ 2147483648) (hg : r.good B) (hs : s.size ≤ 2147483648) : FnEv tab ext 24 [.v (rxV r), .v (strV s)] [] (.ret [boolV (mB s r)], []) := ev24 hB hg hs
set_option maxRecDepth 100000 in
set_option maxHeartbeats 4000000 in
theorem ev7 {r : Rx} {s : ByteArray} (hw : r.wf maxLen) : FnEv tab ext 7 [.v (rxV r), .v (strV s)] [] (.ret [boolV true], []) := by
  refine fn_go _ no7 fn7 rfl rfl rfl ?_
  have k := ev19 (m := 40) hw (by omega)
  cases hsm : smallR r 40 with
  | false =>
    rw [hsm] at k
    refine wC_seq ?_
    refine wC_reg ?_
    refine wS_set rfl rfl rfl (a_boxRx (by assumption) rfl (hT rfl) rfl rfl rfl) ?_
    refine wS_set rfl rfl rfl (a_assign rfl rfl) ?_
    refine wO_nil ?_
    refine wC_seq ?_
    refine wC_seq ?_
    refine wC_reg ?_
    refine wS_set rfl rfl rfl (a_loadRx (by assumption) rfl rfl (hT rfl) rfl rfl) ?_
    refine wS_set rfl rfl rfl (a_call rfl rfl fn19 rfl rfl (k)) ?_
    refine wS_set rfl rfl rfl (a_un rfl rfl) ?_
    refine wS_set rfl rfl rfl (a_move rfl rfl) ?_
    refine wS_skip rfl rfl rfl ?_
    refine wS_skip rfl rfl rfl ?_
    refine wS_skip rfl rfl rfl ?_
    refine wS_set rfl rfl rfl (a_pickT rfl rfl) ?_
    refine wO_nil ?_
    refine wC_cond (p := true) rfl (fun _ => ?_) (fun hc => absurd hc (by decide))
    refine wC_seq ?_
    refine wC_reg ?_
    refine wS_set rfl rfl rfl (a_call rfl rfl fn13 rfl rfl (ev13)) ?_
    refine wS_set rfl rfl rfl (a_assign rfl rfl) ?_
    refine wO_nil ?_
    refine wC_ret ?_
    exact end_tmp rfl rfl
  | true =>
    rw [hsm] at k
    by_cases hs : s.size ≤ 12
    · obtain ⟨h1, h2⟩ := smallR_is hsm
      have hg : r.good 2147483648 := validR_good r h2 hw (by omega)
      have hnb : NB (subs r).length s.size ≤ 2147483648 := Nat.le_trans (NB_mono h1 hs) (by decide)
      have kx := evX (Nat.le_refl _) (by omega) hg hnb (by omega)
      have ky := evY (Nat.le_refl _) hg (show s.size ≤ 2147483648 by omega)
      have kn := ev25 (B := 2147483648) (by omega) r hg.wf
      have ke : FnEv tab ext 24 [.v (rxV r), .v (.lit (.string ⟨#[]⟩))] [] (.ret [boolV (nul r)], []) := evY (Nat.le_refl _) hg (show (⟨#[]⟩ : ByteArray).size ≤ 2147483648 by rw [size_e]; omega)
      refine wC_seq ?_
      refine wC_reg ?_
      refine wS_set rfl rfl rfl (a_boxRx (by assumption) rfl (hT rfl) rfl rfl rfl) ?_
      refine wS_set rfl rfl rfl (a_assign rfl rfl) ?_
      refine wO_nil ?_
      refine wC_seq ?_
      refine wC_seq ?_
      refine wC_reg ?_
      refine wS_set rfl rfl rfl (a_loadRx (by assumption) rfl rfl (hT rfl) rfl rfl) ?_
      refine wS_set rfl rfl rfl (a_call rfl rfl fn19 rfl rfl (k)) ?_
      refine wS_set rfl rfl rfl (a_un rfl rfl) ?_
      refine wS_set rfl rfl rfl (a_move rfl rfl) ?_
      refine wS_set rfl rfl rfl (a_move rfl rfl) ?_
      refine wS_set rfl rfl rfl (a_lenStr rfl rfl (hT rfl) rfl) ?_
      refine wS_set rfl rfl rfl (b_gtr (p := false) (b := 12) rfl rfl (decide_eq_false (by omega))) ?_
      refine wS_set rfl rfl rfl (a_pickF rfl rfl) ?_
      refine wO_nil ?_
      refine wC_cond (p := false) rfl (fun hc => absurd hc (by decide)) (fun _ => ?_)
      refine wC_skip ?_
      refine wC_seq ?_
      refine wC_regD (by kernel_rfl) ?_
      refine wS_set rfl rfl rfl (a_call rfl rfl fn13 rfl rfl (ev13)) ?_
      refine wS_set rfl rfl rfl (a_move rfl rfl) ?_
      refine wS_set rfl rfl rfl (a_loadRx (by assumption) rfl rfl (hT rfl) rfl rfl) ?_
      refine wS_set rfl rfl rfl (a_move rfl rfl) ?_
      refine wS_set rfl rfl rfl (a_call rfl rfl fn23 rfl rfl (kx)) ?_
      refine wS_set rfl rfl rfl (a_loadRx (by assumption) rfl rfl (hT rfl) rfl rfl) ?_
      refine wS_set rfl rfl rfl (a_move rfl rfl) ?_
      refine wS_set rfl rfl rfl (a_call rfl rfl fn24 rfl rfl (ky)) ?_
      refine wS_set rfl rfl rfl (a_binBe rfl rfl (hT rfl) rfl (beq_self_eq_true _)) ?_
      refine wS_set rfl rfl rfl (a_pickT rfl rfl) ?_
      refine wS_set rfl rfl rfl (a_move rfl rfl) ?_
      refine wS_set rfl rfl rfl (a_loadRx (by assumption) rfl rfl (hT rfl) rfl rfl) ?_
      refine wS_set rfl rfl rfl (a_call rfl rfl fn25 rfl rfl (kn)) ?_
      refine wS_set rfl rfl rfl (a_loadRx (by assumption) rfl rfl (hT rfl) rfl rfl) ?_
      refine wS_set rfl rfl rfl (a_call rfl rfl fn24 rfl rfl (ke)) ?_
      refine wS_set rfl rfl rfl (a_binBe rfl rfl (hT rfl) rfl (beq_self_eq_true _)) ?_
      refine wS_set rfl rfl rfl (a_pickT rfl rfl) ?_
      refine wS_set rfl rfl rfl (a_assign rfl rfl) ?_
      refine wO_nil ⟨rfl, by kernel_rfl, ?_⟩
      refine wC_ret ?_
      exact end_tmp rfl rfl
    · refine wC_seq ?_
      refine wC_reg ?_
      refine wS_set rfl rfl rfl (a_boxRx (by assumption) rfl (hT rfl) rfl rfl rfl) ?_
      refine wS_set rfl rfl rfl (a_assign rfl rfl) ?_
      refine wO_nil ?_
      refine wC_seq ?_
      refine wC_seq ?_
      refine wC_reg ?_
      refine wS_set rfl rfl rfl (a_loadRx (by assumption) rfl rfl (hT rfl) rfl rfl) ?_
      refine wS_set rfl rfl rfl (a_call rfl rfl fn19 rfl rfl (k)) ?_
      refine wS_set rfl rfl rfl (a_un rfl rfl) ?_
      refine wS_set rfl rfl rfl (a_move rfl rfl) ?_
      refine wS_set rfl rfl rfl (a_move rfl rfl) ?_
      refine wS_set rfl rfl rfl (a_lenStr rfl rfl (hT rfl) rfl) ?_
      refine wS_set rfl rfl rfl (b_gtr (p := true) (b := 12) rfl rfl (decide_eq_true (by omega))) ?_
      refine wS_set rfl rfl rfl (a_pickF rfl rfl) ?_
      refine wO_nil ?_
      refine wC_cond (p := true) rfl (fun _ => ?_) (fun hc => absurd hc (by decide))
      refine wC_seq ?_
      refine wC_reg ?_
      refine wS_set rfl rfl rfl (a_call rfl rfl fn13 rfl rfl (ev13)) ?_
      refine wS_set rfl rfl rfl (a_assign rfl rfl) ?_
      refine wO_nil ?_
      refine wC_ret ?_
      exact end_tmp rfl rfl

end Go.Proofs.YtjppkpjlbbkdnaaDoor

namespace Go.Proofs.YtjppkpjlbbkdnaaDoor
open Go Go.Dv

set_option maxRecDepth 100000 in
set_option maxHeartbeats 4000000 in
theorem ev8 {r : Rx} {b : Nat} {s : ByteArray} (hw : r.wf maxLen) (hb : b < 256) : FnEv tab ext 8 [.v (rxV r), .v (byteV b), .v (strV s)] [] (.ret [boolV true], []) := by
  refine fn_go _ no8 fn8 rfl rfl rfl ?_
  have k := ev19 (m := 25) hw (by omega)
  cases hsm : smallR r 25 with
  | false =>
    rw [hsm] at k
    refine wC_seq ?_
    refine wC_reg ?_
    refine wS_set rfl rfl rfl (a_boxRx (by assumption) rfl (hT rfl) rfl rfl rfl) ?_
    refine wS_set rfl rfl rfl (a_assign rfl rfl) ?_
    refine wO_nil ?_
    refine wC_seq ?_
    refine wC_seq ?_
    refine wC_reg ?_
    refine wS_set rfl rfl rfl (a_loadRx (by assumption) rfl rfl (hT rfl) rfl rfl) ?_
    refine wS_set rfl rfl rfl (a_call rfl rfl fn19 rfl rfl (k)) ?_
    refine wS_set rfl rfl rfl (a_un rfl rfl) ?_
    refine wS_set rfl rfl rfl (a_move rfl rfl) ?_
    refine wS_skip rfl rfl rfl ?_
    refine wS_skip rfl rfl rfl ?_
    refine wS_skip rfl rfl rfl ?_
    refine wS_set rfl rfl rfl (a_pickT rfl rfl) ?_
    refine wO_nil ?_
    refine wC_cond (p := true) rfl (fun _ => ?_) (fun hc => absurd hc (by decide))
    refine wC_seq ?_
    refine wC_reg ?_
    refine wS_set rfl rfl rfl (a_call rfl rfl fn13 rfl rfl (ev13)) ?_
    refine wS_set rfl rfl rfl (a_assign rfl rfl) ?_
    refine wO_nil ?_
    refine wC_ret ?_
    exact end_tmp rfl rfl
  | true =>
    rw [hsm] at k
    by_cases hs : s.size ≤ 8
    · obtain ⟨h1, h2⟩ := smallR_is hsm
      have hg : r.good 2147483648 := validR_good r h2 hw (by omega)
      have hnb : NB (subs r).length 9 ≤ 2147483648 := Nat.le_trans (NB_mono h1 (Nat.le_refl _)) (by decide)
      have hok : okD 2147483648 b r := okD_one (Nat.le_trans (NB_mono (Nat.le_refl _) (by omega)) hnb)
      have hgd := der_good (by omega) r hg hok
      have hwd := hgd.wf
      have kd := ev26 (Nat.le_refl _) (by omega) hb r hg hok
      have kx : FnEv tab ext 23 [.v (rxV (der b r)), .v (strV s)] [] (.ret [boolV (nul (derL (bl s) (der b r)))], []) :=
        ev23 (Nat.le_refl _) (by omega) hgd (by omega) (okW_der (Nat.le_trans (NB_mono (Nat.le_refl _) (by rw [bl_len]; omega)) hnb))
      have kn := ev25 (B := 2147483648) (by omega) (der b r) hwd
      have ey : bl (⟨[UInt8.ofNat b].toArray⟩ ++ s) = b :: bl s := by rw [bl_app, bl_one, u8_of hb]; rfl
      have ez : bl ⟨[UInt8.ofNat b].toArray⟩ = [b] := by rw [bl_one, u8_of hb]
      have sy : (⟨[UInt8.ofNat b].toArray⟩ ++ s : ByteArray).size = 1 + s.size := by rw [ByteArray.size_append]; rfl
      have ky := ev24 (Nat.le_refl _) hg (s := ⟨[UInt8.ofNat b].toArray⟩ ++ s) (by omega)
      have kz := ev24 (Nat.le_refl _) hg (s := ⟨[UInt8.ofNat b].toArray⟩) (show 1 ≤ 2147483648 by omega)
      rw [ey] at ky
      rw [ez] at kz
      have eadd : strOp .add ⟨[UInt8.ofNat b].toArray⟩ s = some (.string (⟨[UInt8.ofNat b].toArray⟩ ++ s)) := if_pos (show 1 + s.size ≤ 9223372036854775807 by omega)
      refine wC_seq ?_
      refine wC_reg ?_
      refine wS_set rfl rfl rfl (a_boxRx (by assumption) rfl (hT rfl) rfl rfl rfl) ?_
      refine wS_set rfl rfl rfl (a_assign rfl rfl) ?_
      refine wO_nil ?_
      refine wC_seq ?_
      refine wC_seq ?_
      refine wC_reg ?_
      refine wS_set rfl rfl rfl (a_loadRx (by assumption) rfl rfl (hT rfl) rfl rfl) ?_
      refine wS_set rfl rfl rfl (a_call rfl rfl fn19 rfl rfl (k)) ?_
      refine wS_set rfl rfl rfl (a_un rfl rfl) ?_
      refine wS_set rfl rfl rfl (a_move rfl rfl) ?_
      refine wS_set rfl rfl rfl (a_move rfl rfl) ?_
      refine wS_set rfl rfl rfl (a_lenStr rfl rfl (hT rfl) rfl) ?_
      refine wS_set rfl rfl rfl (b_gtr (p := false) (b := 8) rfl rfl (decide_eq_false (by omega))) ?_
      refine wS_set rfl rfl rfl (a_pickF rfl rfl) ?_
      refine wO_nil ?_
      refine wC_cond (p := false) rfl (fun hc => absurd hc (by decide)) (fun _ => ?_)
      refine wC_skip ?_
      refine wC_seq ?_
      refine wC_reg ?_
      refine wS_set rfl rfl rfl (a_loadRx (by assumption) rfl rfl (hT rfl) rfl rfl) ?_
      refine wS_set rfl rfl rfl (a_move rfl rfl) ?_
      refine wS_set rfl rfl rfl (a_call rfl rfl fn26 rfl rfl (kd)) ?_
      refine wS_set rfl rfl rfl (a_alloc (hT rfl) rfl rfl) ?_
      refine wS_eff rfl rfl (a_storeRx (by assumption) rfl rfl rfl (by first | rfl | exact rxB_len (by assumption)) (hT rfl) rfl rfl) ?_
      refine wO_nil ?_
      refine wC_seq ?_
      refine wC_regD (by kernel_rfl) ?_
      refine wS_set rfl rfl rfl (a_call rfl rfl fn13 rfl rfl (ev13)) ?_
      refine wS_set rfl rfl rfl (a_move rfl rfl) ?_
      refine wS_set rfl rfl rfl (a_loadRx (by assumption) rfl rfl (hT rfl) rfl rfl) ?_
      refine wS_set rfl rfl rfl (a_move rfl rfl) ?_
      refine wS_set rfl rfl rfl (a_call rfl rfl fn23 rfl rfl (kx)) ?_
      refine wS_set rfl rfl rfl (a_loadRx (by assumption) rfl rfl (hT rfl) rfl rfl) ?_
      refine wS_set rfl rfl rfl (a_move rfl rfl) ?_
      refine wS_set rfl rfl rfl (a_buildSlice (ys := [byteV b]) (es := [[byteV b]]) rfl (hT rfl) rfl (hT rfl) rfl rfl rfl rfl rfl) ?_
      refine wS_set rfl rfl rfl (a_convBytesO (l := [UInt8.ofNat b]) rfl rfl (hT rfl) rfl (hT rfl) rfl rfl (hT rfl) rfl rfl) ?_
      refine wS_set rfl rfl rfl (a_move rfl rfl) ?_
      refine wS_set rfl rfl rfl (a_bin rfl rfl eadd) ?_
      refine wS_set rfl rfl rfl (a_call rfl rfl fn24 rfl rfl (ky)) ?_
      refine wS_set rfl rfl rfl (a_binBe rfl rfl (hT rfl) rfl (beq_self_eq_true _)) ?_
      refine wS_set rfl rfl rfl (a_pickT rfl rfl) ?_
      refine wS_set rfl rfl rfl (a_move rfl rfl) ?_
      refine wS_set rfl rfl rfl (a_loadRx (by assumption) rfl rfl (hT rfl) rfl rfl) ?_
      refine wS_set rfl rfl rfl (a_call rfl rfl fn25 rfl rfl (kn)) ?_
      refine wS_set rfl rfl rfl (a_loadRx (by assumption) rfl rfl (hT rfl) rfl rfl) ?_
      refine wS_set rfl rfl rfl (a_move rfl rfl) ?_
      refine wS_set rfl rfl rfl (a_buildSlice (ys := [byteV b]) (es := [[byteV b]]) rfl (hT rfl) rfl (hT rfl) rfl rfl rfl rfl rfl) ?_
      refine wS_set rfl rfl rfl (a_convBytesO (l := [UInt8.ofNat b]) rfl rfl (hT rfl) rfl (hT rfl) rfl rfl (hT rfl) rfl rfl) ?_
      refine wS_set rfl rfl rfl (a_call rfl rfl fn24 rfl rfl (kz)) ?_
      refine wS_set rfl rfl rfl (a_binBe rfl rfl (hT rfl) rfl (beq_self_eq_true _)) ?_
      refine wS_set rfl rfl rfl (a_pickT rfl rfl) ?_
      refine wS_set rfl rfl rfl (a_assign rfl rfl) ?_
      refine wO_nil ⟨rfl, by kernel_rfl, ?_⟩
      refine wC_ret ?_
      exact end_tmp rfl rfl
    · refine wC_seq ?_
      refine wC_reg ?_
      refine wS_set rfl rfl rfl (a_boxRx (by assumption) rfl (hT rfl) rfl rfl rfl) ?_
      refine wS_set rfl rfl rfl (a_assign rfl rfl) ?_
      refine wO_nil ?_
      refine wC_seq ?_
      refine wC_seq ?_
      refine wC_reg ?_
      refine wS_set rfl rfl rfl (a_loadRx (by assumption) rfl rfl (hT rfl) rfl rfl) ?_
      refine wS_set rfl rfl rfl (a_call rfl rfl fn19 rfl rfl (k)) ?_
      refine wS_set rfl rfl rfl (a_un rfl rfl) ?_
      refine wS_set rfl rfl rfl (a_move rfl rfl) ?_
      refine wS_set rfl rfl rfl (a_move rfl rfl) ?_
      refine wS_set rfl rfl rfl (a_lenStr rfl rfl (hT rfl) rfl) ?_
      refine wS_set rfl rfl rfl (b_gtr (p := true) (b := 8) rfl rfl (decide_eq_true (by omega))) ?_
      refine wS_set rfl rfl rfl (a_pickF rfl rfl) ?_
      refine wO_nil ?_
      refine wC_cond (p := true) rfl (fun _ => ?_) (fun hc => absurd hc (by decide))
      refine wC_seq ?_
      refine wC_reg ?_
      refine wS_set rfl rfl rfl (a_call rfl rfl fn13 rfl rfl (ev13)) ?_
      refine wS_set rfl rfl rfl (a_assign rfl rfl) ?_
      refine wO_nil ?_
      refine wC_ret ?_
      exact end_tmp rfl rfl
set_option maxRecDepth 100000 in
set_option maxHeartbeats 4000000 in
theorem ev9 {r : Rx} {s : ByteArray} (hw : r.wf maxLen) : FnEv tab ext 9 [.v (rxV r), .v (strV s)] [] (.ret [boolV true], []) := by
  refine fn_go _ no9 fn9 rfl rfl rfl ?_
  have k := ev19 (m := 20) hw (by omega)
  cases hsm : smallR r 20 with
  | false =>
    rw [hsm] at k
    refine wC_seq ?_
    refine wC_reg ?_
    refine wS_set rfl rfl rfl (a_boxRx (by assumption) rfl (hT rfl) rfl rfl rfl) ?_
    refine wS_set rfl rfl rfl (a_assign rfl rfl) ?_
    refine wO_nil ?_
    refine wC_seq ?_
    refine wC_seq ?_
    refine wC_reg ?_
    refine wS_set rfl rfl rfl (a_loadRx (by assumption) rfl rfl (hT rfl) rfl rfl) ?_
    refine wS_set rfl rfl rfl (a_call rfl rfl fn19 rfl rfl (k)) ?_
    refine wS_set rfl rfl rfl (a_un rfl rfl) ?_
    refine wS_set rfl rfl rfl (a_move rfl rfl) ?_
    refine wS_skip rfl rfl rfl ?_
    refine wS_skip rfl rfl rfl ?_
    refine wS_skip rfl rfl rfl ?_
    refine wS_set rfl rfl rfl (a_pickT rfl rfl) ?_
    refine wO_nil ?_
    refine wC_cond (p := true) rfl (fun _ => ?_) (fun hc => absurd hc (by decide))
    refine wC_seq ?_
    refine wC_reg ?_
    refine wS_set rfl rfl rfl (a_call rfl rfl fn13 rfl rfl (ev13)) ?_
    refine wS_set rfl rfl rfl (a_assign rfl rfl) ?_
    refine wO_nil ?_
    refine wC_ret ?_
    exact end_tmp rfl rfl
  | true =>
    rw [hsm] at k
    by_cases hs : s.size ≤ 6
    · obtain ⟨h1, h2⟩ := smallR_is hsm
      have hg : r.good 2147483648 := validR_good r h2 hw (by omega)
      have hnb : NB (subs r).length s.size ≤ 2147483648 := Nat.le_trans (NB_mono h1 hs) (by decide)
      have ho : okW 2147483648 (bl s) r := okW_of (by rw [bl_len]; exact hnb)
      have ky := evY (Nat.le_refl _) hg (show s.size ≤ 2147483648 by omega)
      refine wC_seq ?_
      refine wC_reg ?_
      refine wS_set rfl rfl rfl (a_boxRx (by assumption) rfl (hT rfl) rfl rfl rfl) ?_
      refine wS_set rfl rfl rfl (a_assign rfl rfl) ?_
      refine wO_nil ?_
      refine wC_seq ?_
      refine wC_seq ?_
      refine wC_reg ?_
      refine wS_set rfl rfl rfl (a_loadRx (by assumption) rfl rfl (hT rfl) rfl rfl) ?_
      refine wS_set rfl rfl rfl (a_call rfl rfl fn19 rfl rfl (k)) ?_
      refine wS_set rfl rfl rfl (a_un rfl rfl) ?_
      refine wS_set rfl rfl rfl (a_move rfl rfl) ?_
      refine wS_set rfl rfl rfl (a_move rfl rfl) ?_
      refine wS_set rfl rfl rfl (a_lenStr rfl rfl (hT rfl) rfl) ?_
      refine wS_set rfl rfl rfl (b_gtr (p := false) (b := 6) rfl rfl (decide_eq_false (by omega))) ?_
      refine wS_set rfl rfl rfl (a_pickF rfl rfl) ?_
      refine wO_nil ?_
      refine wC_cond (p := false) rfl (fun hc => absurd hc (by decide)) (fun _ => ?_)
      refine wC_skip ?_
      refine wC_seq ?_
      refine wC_reg ?_
      refine wS_set rfl rfl rfl (a_loadRx (by assumption) rfl rfl (hT rfl) rfl rfl) ?_
      refine wS_set rfl rfl rfl (a_alloc (hT rfl) rfl rfl) ?_
      refine wS_eff rfl rfl (a_storeRx (by assumption) rfl rfl rfl (by first | rfl | exact rxB_len (by assumption)) (hT rfl) rfl rfl) ?_
      refine wO_nil ?_
      refine wC_seq ?_
      refine wC_seq ?_
      refine wC_reg ?_
      refine wS_set rfl rfl rfl (a_assign rfl rfl) ?_
      refine wO_nil ?_
      refine wC_block ?_
      refine wC_loop (fun m ρ => ∃ (i : Nat), i + m = s.size ∧
          PinSt 37 [(1, .v (strV s)), (2, .addr 2 1 0), (5, .addr 5 1 0), (6, natX .i64 i)] [(2, .box 1 (rxB r)), (5, .box 1 (rxB (derL ((bl s).take i) r)))] ρ) (fun m ρ hi => ?_) s.size
        ⟨0, by omega, pinned_mk rfl ⟨rfl, rfl, rfl, rfl, trivial⟩ ⟨rfl, rfl, trivial⟩⟩
      obtain ⟨i, hm, hi⟩ := hi
      replace hi := hi.form
      obtain ⟨g, h, rfl⟩ := hi
      have hgi := derL_good (by omega) hg ho i (by rw [bl_len]; omega)
      have hwi := hgi.wf
      by_cases hlt : i < s.size
      · have hoi := ho i _ (bl_at hlt)
        have hd := ev26 (Nat.le_refl _) (by omega) (byteAt_lt s i) _ hgi hoi
        have hdw := (der_good (by omega) _ hgi hoi).wf
        rw [← derL_take hlt] at hd hdw
        refine wC_seq ?_
        refine wC_seq ?_
        refine wC_reg ?_
        refine wS_set rfl rfl rfl (a_move rfl rfl) ?_
        refine wS_set rfl rfl rfl (a_move rfl rfl) ?_
        refine wS_set rfl rfl rfl (a_lenStr rfl rfl (hT rfl) rfl) ?_
        refine wS_set rfl rfl rfl (b_lss (p := true) rfl rfl (decide_eq_true (by omega))) ?_
        refine wO_nil ?_
        refine wC_cond (p := true) rfl (fun _ => ?_) (fun hc => absurd hc (by decide))
        refine wC_skip ?_
        refine wC_seq ?_
        refine wC_block ?_
        refine wC_regD (by kernel_rfl) ?_
        refine wS_set rfl rfl rfl (a_loadRx (by assumption) rfl rfl (hT rfl) rfl rfl) ?_
        refine wS_set rfl rfl rfl (a_move rfl rfl) ?_
        refine wS_set rfl rfl rfl (a_move rfl rfl) ?_
        refine wS_set rfl rfl rfl (n_byteAt (by omega) rfl rfl (hT rfl) rfl) ?_
        refine wS_set rfl rfl rfl (a_call rfl rfl fn26 rfl rfl (hd)) ?_
        refine wS_eff rfl rfl (a_storeRx (by assumption) rfl rfl rfl (by first | rfl | exact rxB_len (by assumption)) (hT rfl) rfl rfl) ?_
        refine wO_nil ⟨rfl, by kernel_rfl, ?_⟩
        refine wC_reg ?_
        refine wS_set rfl rfl rfl (a_move rfl rfl) ?_
        refine wS_set rfl rfl rfl (n_add (b := 1) rfl rfl (by simp only [capN]; omega)) ?_
        refine wS_set rfl rfl rfl (a_assign rfl rfl) ?_
        refine wO_nil ?_
        exact ⟨m - 1, by omega, i + 1, by omega, pinned_mk rfl ⟨rfl, rfl, rfl, rfl, trivial⟩ ⟨rfl, rfl, trivial⟩⟩
      · obtain rfl : i = s.size := by omega
        rw [bl_all] at hwi ⊢
        have kn := ev25 (B := 2147483648) (by omega) _ hwi
        refine wC_seq ?_
        refine wC_seq ?_
        refine wC_reg ?_
        refine wS_set rfl rfl rfl (a_move rfl rfl) ?_
        refine wS_set rfl rfl rfl (a_move rfl rfl) ?_
        refine wS_set rfl rfl rfl (a_lenStr rfl rfl (hT rfl) rfl) ?_
        refine wS_set rfl rfl rfl (b_lss (p := false) rfl rfl (decide_eq_false (by omega))) ?_
        refine wO_nil ?_
        refine wC_cond (p := false) rfl (fun hc => absurd hc (by decide)) (fun _ => ?_)
        refine wC_exit ?_
        refine wC_seq ?_
        refine wC_regD (by kernel_rfl) ?_
        refine wS_set rfl rfl rfl (a_call rfl rfl fn13 rfl rfl (ev13)) ?_
        refine wS_set rfl rfl rfl (a_move rfl rfl) ?_
        refine wS_set rfl rfl rfl (a_loadRx (by assumption) rfl rfl (hT rfl) rfl rfl) ?_
        refine wS_set rfl rfl rfl (a_call rfl rfl fn25 rfl rfl (kn)) ?_
        refine wS_set rfl rfl rfl (a_loadRx (by assumption) rfl rfl (hT rfl) rfl rfl) ?_
        refine wS_set rfl rfl rfl (a_move rfl rfl) ?_
        refine wS_set rfl rfl rfl (a_call rfl rfl fn24 rfl rfl (ky)) ?_
        refine wS_set rfl rfl rfl (a_binBe rfl rfl (hT rfl) rfl (beq_self_eq_true _)) ?_
        refine wS_set rfl rfl rfl (a_pickT rfl rfl) ?_
        refine wS_set rfl rfl rfl (a_assign rfl rfl) ?_
        refine wO_nil ⟨rfl, by kernel_rfl, ?_⟩
        refine wC_ret ?_
        exact end_tmp rfl rfl
    · refine wC_seq ?_
      refine wC_reg ?_
      refine wS_set rfl rfl rfl (a_boxRx (by assumption) rfl (hT rfl) rfl rfl rfl) ?_
      refine wS_set rfl rfl rfl (a_assign rfl rfl) ?_
      refine wO_nil ?_
      refine wC_seq ?_
      refine wC_seq ?_
      refine wC_reg ?_
      refine wS_set rfl rfl rfl (a_loadRx (by assumption) rfl rfl (hT rfl) rfl rfl) ?_
      refine wS_set rfl rfl rfl (a_call rfl rfl fn19 rfl rfl (k)) ?_
      refine wS_set rfl rfl rfl (a_un rfl rfl) ?_
      refine wS_set rfl rfl rfl (a_move rfl rfl) ?_
      refine wS_set rfl rfl rfl (a_move rfl rfl) ?_
      refine wS_set rfl rfl rfl (a_lenStr rfl rfl (hT rfl) rfl) ?_
      refine wS_set rfl rfl rfl (b_gtr (p := true) (b := 6) rfl rfl (decide_eq_true (by omega))) ?_
      refine wS_set rfl rfl rfl (a_pickF rfl rfl) ?_
      refine wO_nil ?_
      refine wC_cond (p := true) rfl (fun _ => ?_) (fun hc => absurd hc (by decide))
      refine wC_seq ?_
      refine wC_reg ?_
      refine wS_set rfl rfl rfl (a_call rfl rfl fn13 rfl rfl (ev13)) ?_
      refine wS_set rfl rfl rfl (a_assign rfl rfl) ?_
      refine wO_nil ?_
      refine wC_ret ?_
      exact end_tmp rfl rfl

end Go.Proofs.YtjppkpjlbbkdnaaDoor
