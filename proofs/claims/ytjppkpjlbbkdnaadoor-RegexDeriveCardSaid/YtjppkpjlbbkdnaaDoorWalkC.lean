/-
  What is proved here: matching by derivatives; the size of expressions; the ends of matches, as the reference computes them. Conditions: those that stand at each theorem.
-/
import Derived.Test.YtjppkpjlbbkdnaaDoorWalkB

namespace Go.Proofs.YtjppkpjlbbkdnaaDoor
open Go Go.Dv

set_option maxRecDepth 100000 in
set_option maxHeartbeats 4000000 in
theorem ev23 {B : Nat} (hB : B ≤ 2147483648) (h2 : 2 ≤ B) {r : Rx} {s : ByteArray} (hg : r.good B) (hs : s.size ≤ 2147483648) (ho : okW B (bl s) r) : FnEv tab ext 23 [.v (rxV r), .v (strV s)] [] (.ret [boolV (nul (derL (bl s) r))], []) := by
  have hw := hg.wf
  refine fn_go _ no23 fn23 rfl rfl rfl ?_
  refine wC_seq ?_
  refine wC_reg ?_
  refine wS_set rfl rfl rfl (a_boxRx (by assumption) rfl (hT rfl) rfl rfl rfl) ?_
  refine wS_set rfl rfl rfl (a_assign rfl rfl) ?_
  refine wO_nil ?_
  refine wC_seq ?_
  refine wC_seq ?_
  refine wC_reg ?_
  refine wS_set rfl rfl rfl (a_move rfl rfl) ?_
  refine wS_set rfl rfl rfl (a_lenStr rfl rfl (hT rfl) rfl) ?_
  refine wS_set rfl rfl rfl (a_move rfl rfl) ?_
  refine wO_nil ?_
  refine wC_block ?_
  refine wC_loop (fun m ρ => ∃ (i : Nat), i + m = s.size ∧
      PinSt 19 [(1, .v (strV s)), (2, .addr 2 1 0), (7, natX .i64 s.size), (8, natX .i64 i)] [(2, .box 1 (rxB (derL ((bl s).take i) r)))] ρ) (fun m ρ hi => ?_) s.size
    ⟨0, by omega, pinned_mk rfl ⟨rfl, rfl, rfl, rfl, trivial⟩ ⟨rfl, trivial⟩⟩
  obtain ⟨i, hm, hi⟩ := hi
  replace hi := hi.form
  obtain ⟨g, h, rfl⟩ := hi
  have hgi := derL_good h2 hg ho i (by rw [bl_len]; omega)
  have hwi := hgi.wf
  by_cases hlt : i < s.size
  · have hoi := ho i _ (bl_at hlt)
    have hd := ev26 hB h2 (byteAt_lt s i) _ hgi hoi
    have hdw := (der_good h2 _ hgi hoi).wf
    rw [← derL_take hlt] at hd hdw
    refine wC_seq ?_
    refine wC_reg ?_
    refine wS_set rfl rfl rfl (b_lss (p := true) rfl rfl (decide_eq_true (by omega))) ?_
    refine wO_nil ?_
    refine wC_seq ?_
    refine wC_cond (p := true) rfl (fun _ => ?_) (fun hc => absurd hc (by decide))
    refine wC_skip ?_
    refine wC_seq ?_
    refine wC_block ?_
    refine wC_seq ?_
    refine wC_reg ?_
    refine wS_set rfl rfl rfl (a_move rfl rfl) ?_
    refine wS_set rfl rfl rfl (a_assign rfl rfl) ?_
    refine wO_nil ?_
    refine wC_regD (by kernel_rfl) ?_
    refine wS_set rfl rfl rfl (a_loadRx (by assumption) rfl rfl (hT rfl) rfl rfl) ?_
    refine wS_set rfl rfl rfl (a_move rfl rfl) ?_
    refine wS_set rfl rfl rfl (a_move rfl rfl) ?_
    refine wS_set rfl rfl rfl (n_byteAt (by omega) rfl rfl (hT rfl) rfl) ?_
    refine wS_set rfl rfl rfl (a_call rfl rfl fn26 rfl rfl (hd)) ?_
    refine wS_eff rfl rfl (a_storeRx (by assumption) rfl rfl rfl (by first | rfl | exact rxB_len (by assumption)) (hT rfl) rfl rfl) ?_
    refine wO_nil ⟨rfl, by kernel_rfl, ?_⟩
    refine wC_reg ?_
    refine wS_set rfl rfl rfl (n_add (b := 1) rfl rfl (by simp only [capN]; omega)) ?_
    refine wS_set rfl rfl rfl (a_move rfl rfl) ?_
    refine wO_nil ?_
    exact ⟨m - 1, by omega, i + 1, by omega, pinned_mk rfl ⟨rfl, rfl, rfl, rfl, trivial⟩ ⟨rfl, trivial⟩⟩
  · obtain rfl : i = s.size := by omega
    rw [bl_all] at hwi ⊢
    refine wC_seq ?_
    refine wC_reg ?_
    refine wS_set rfl rfl rfl (b_lss (p := false) rfl rfl (decide_eq_false (by omega))) ?_
    refine wO_nil ?_
    refine wC_seq ?_
    refine wC_cond (p := false) rfl (fun hc => absurd hc (by decide)) (fun _ => ?_)
    refine wC_exit ?_
    refine wC_seq ?_
    refine wC_reg ?_
    refine wS_set rfl rfl rfl (a_loadRx (by assumption) rfl rfl (hT rfl) rfl rfl) ?_
    refine wS_set rfl rfl rfl (a_call rfl rfl fn25 rfl rfl (ev25 (B := B) (by omega) _ hwi)) ?_
    refine wS_set rfl rfl rfl (a_assign rfl rfl) ?_
    refine wO_nil ?_
    refine wC_ret ?_
    exact end_tmp rfl rfl

end Go.Proofs.YtjppkpjlbbkdnaaDoor

namespace Go.Proofs.YtjppkpjlbbkdnaaDoor
open Go Go.Dv

set_option maxRecDepth 100000 in
set_option maxHeartbeats 4000000 in
theorem ev52 {W : List Nat} {b : Nat} (hb : b < 256) (hW : isW W) : FnEv tab ext 52 [.v (setV W), .v (natV b)] [] (.ret [boolV (has W b)], []) := by
  refine fn_go _ no52 fn52 rfl rfl rfl ?_
  have hq : b / 64 < 4 := by omega
  have hw := hW.2 (b / 64)
  refine wC_seq ?_
  refine wC_reg ?_
  refine wS_set rfl rfl rfl (a_box2 rfl (hT rfl) rfl (by rw [List.length_map, hW.1]) rfl) ?_
  refine wS_set rfl rfl rfl (a_assign rfl rfl) ?_
  refine wO_nil ?_
  refine wC_seq ?_
  refine wC_reg ?_
  refine wS_set rfl rfl rfl (a_move rfl rfl) ?_
  refine wS_set rfl rfl rfl (n_quo (b := 64) rfl rfl (by omega) (by simp only [capN]; omega)) ?_
  refine wS_set rfl rfl rfl (n_indexAddrA rfl rfl (hT rfl) rfl (hT rfl) hq) ?_
  refine wS_set rfl rfl rfl (a_load1 rfl rfl (hT rfl) rfl (cell_get hW hq)) ?_
  refine wS_set rfl rfl rfl (a_move rfl rfl) ?_
  refine wS_set rfl rfl rfl (n_rem (b := 64) rfl rfl (by omega)) ?_
  refine wS_set rfl rfl rfl (n_conv rfl (hT rfl) rfl (hT rfl) rfl (by simp only [capN]; omega)) ?_
  refine wS_set rfl rfl rfl (n_shr rfl rfl (by simp only [IntKind.bits]; omega)) ?_
  refine wS_set rfl rfl rfl (n_and (b := 1) rfl rfl (cap64 (Nat.lt_of_le_of_lt (Nat.div_le_self _ _) hw)) (by simp only [capN]; omega)) ?_
  refine wS_set rfl rfl rfl (n_eql (b := 1) rfl rfl ) ?_
  refine wS_set rfl rfl rfl (a_assign rfl rfl) ?_
  refine wO_nil ?_
  refine wC_ret ?_
  exact end_tmp rfl rfl
set_option maxRecDepth 100000 in
set_option maxHeartbeats 4000000 in
theorem ev35 : ∀ (r : Rx), r.wf maxLen → (subs r).length ≤ 2147483648 → FnEv tab ext 35 [.v (rxV r)] [] (.ret [natV (depR r)], []) := by
  intro r
  induction r using Rx.ind' with
  | h r ih =>
    intro hw hs
    have hd := depR_le r
    have hls := kids_subs r
    rw [depR_eq] at hd ⊢
    refine fn_go _ no35 fn35 rfl rfl rfl ?_
    refine wC_seq ?_
    refine wC_reg ?_
    refine wS_set rfl rfl rfl (a_boxRx (by assumption) rfl (hT rfl) rfl rfl rfl) ?_
    refine wS_set rfl rfl rfl (a_assign rfl rfl) ?_
    refine wO_nil ?_
    refine wC_seq ?_
    refine wC_reg ?_
    refine wS_set rfl rfl rfl (a_assign rfl rfl) ?_
    refine wO_nil ?_
    refine wC_seq ?_
    refine wC_seq ?_
    refine wC_reg ?_
    refine wS_set rfl rfl rfl (a_assign rfl rfl) ?_
    refine wO_nil ?_
    refine wC_block ?_
    refine wC_loop (fun m ρ => ∃ (i n : Nat), i + m = r.l.length ∧ depRs r.l 0 = depRs (r.l.drop i) n ∧ n ≤ 2147483648 ∧
        PinSt 22 [(1, .addr 1 1 0), (3, natX .i64 n), (4, natX .i64 i)] [(1, .box 1 (rxB r))] ρ) (fun m ρ hi => ?_) r.l.length
      ⟨0, 0, by omega, by rw [List.drop_zero], by omega, pinned_mk rfl ⟨rfl, rfl, rfl, trivial⟩ ⟨rfl, trivial⟩⟩
    obtain ⟨i, n, hm, he, hn, hi⟩ := hi
    replace hi := hi.form
    obtain ⟨g, h, rfl⟩ := hi
    have e1 := rxRows_len r.l
    by_cases hlt : i < r.l.length
    · have hget : r.l[i]? = some (r.l[i]'hlt) := List.getElem?_eq_getElem hlt
      have hmem := List.getElem_mem hlt
      have hwk := hw.at hget
      have hsk := subs_lt r (subs_self r) hmem
      have hk := ih _ hmem hwk (by omega)
      have hdk := depR_le (r.l[i]'hlt)
      rw [depRs_step hget] at he
      generalize r.l[i]'hlt = x at hget hmem hwk hsk hk hdk he
      refine wC_seq ?_
      refine wC_seq ?_
      refine wC_reg ?_
      refine wS_set rfl rfl rfl (a_move rfl rfl) ?_
      refine wS_set rfl rfl rfl (a_fieldAddrA rfl (hT rfl) rfl rfl (hT rfl) rfl) ?_
      refine wS_set rfl rfl rfl (a_loadKids (by assumption) rfl rfl (hT rfl) rfl) ?_
      refine wS_set rfl rfl rfl (a_lenK rfl rfl (hT rfl) rfl) ?_
      refine wS_set rfl rfl rfl (b_lss (p := true) rfl rfl (decide_eq_true (by omega))) ?_
      refine wO_nil ?_
      refine wC_cond (p := true) rfl (fun _ => ?_) (fun hc => absurd hc (by decide))
      refine wC_skip ?_
      refine wC_seq ?_
      refine wC_block ?_
      refine wC_reg ?_
      refine wS_set rfl rfl rfl (a_move rfl rfl) ?_
      refine wS_set rfl rfl rfl (a_fieldAddrA rfl (hT rfl) rfl rfl (hT rfl) rfl) ?_
      refine wS_set rfl rfl rfl (a_loadKids (by assumption) rfl rfl (hT rfl) rfl) ?_
      refine wS_set rfl rfl rfl (a_move rfl rfl) ?_
      refine wS_set rfl rfl rfl (n_indexAddrV (a := i) rfl rfl (hT rfl) rfl (hT rfl) rfl (rxRows_get hget)) ?_
      refine wS_set rfl rfl rfl (a_loadRxR (by assumption) rfl (hT rfl) rfl rfl) ?_
      refine wS_set rfl rfl rfl (a_call rfl rfl fn35 rfl rfl (hk)) ?_
      refine wS_set rfl rfl rfl (n_max2 rfl rfl) ?_
      refine wS_set rfl rfl rfl (a_assign rfl rfl) ?_
      refine wO_nil ?_
      refine wC_reg ?_
      refine wS_set rfl rfl rfl (a_move rfl rfl) ?_
      refine wS_set rfl rfl rfl (n_add (b := 1) rfl rfl (by simp only [capN]; omega)) ?_
      refine wS_set rfl rfl rfl (a_assign rfl rfl) ?_
      refine wO_nil ?_
      exact ⟨m - 1, by omega, i + 1, max n (depR x), by omega, he, by omega, pinned_mk rfl ⟨rfl, rfl, rfl, trivial⟩ ⟨rfl, trivial⟩⟩
    · obtain rfl : i = r.l.length := by omega
      rw [List.drop_length, depRs] at he
      rw [he] at hd ⊢
      refine wC_seq ?_
      refine wC_seq ?_
      refine wC_reg ?_
      refine wS_set rfl rfl rfl (a_move rfl rfl) ?_
      refine wS_set rfl rfl rfl (a_fieldAddrA rfl (hT rfl) rfl rfl (hT rfl) rfl) ?_
      refine wS_set rfl rfl rfl (a_loadKids (by assumption) rfl rfl (hT rfl) rfl) ?_
      refine wS_set rfl rfl rfl (a_lenK rfl rfl (hT rfl) rfl) ?_
      refine wS_set rfl rfl rfl (b_lss (p := false) rfl rfl (decide_eq_false (by omega))) ?_
      refine wO_nil ?_
      refine wC_cond (p := false) rfl (fun hc => absurd hc (by decide)) (fun _ => ?_)
      refine wC_exit ?_
      refine wC_seq ?_
      refine wC_reg ?_
      refine wS_set rfl rfl rfl (a_move rfl rfl) ?_
      refine wS_set rfl rfl rfl (n_add (b := 1) rfl rfl (by simp only [capN]; omega)) ?_
      refine wS_set rfl rfl rfl (a_assign rfl rfl) ?_
      refine wO_nil ?_
      refine wC_ret ?_
      exact end_tmp rfl rfl
def smallR (r : Rx) (m : Nat) : Bool := decide (0 ≤ shal r 0 ((m + 1 : Nat) : Int)) && (validR r 0 && decide (depR r ≤ 8))
theorem smallR_is {r : Rx} {m : Nat} (h : smallR r m = true) : (subs r).length ≤ m + 1 ∧ validR r 0 = true := by
  unfold smallR at h
  rw [Bool.and_eq_true, Bool.and_eq_true, decide_eq_true_iff] at h
  have := shal_subs r 0 _ h.1
  exact ⟨by omega, h.2.1⟩
set_option maxRecDepth 100000 in
set_option maxHeartbeats 4000000 in
theorem ev19 {r : Rx} {m : Nat} (hw : r.wf maxLen) (hm : m ≤ 200) : FnEv tab ext 19 [.v (rxV r), .v (natV m)] [] (.ret [boolV (smallR r m)], []) := by
  refine fn_go _ no19 fn19 rfl rfl rfl ?_
  unfold smallR
  have k := ev12 hw hm
  cases h1 : decide (0 ≤ shal r 0 ((m + 1 : Nat) : Int)) with
  | false =>
    rw [h1] at k
    refine wC_seq ?_
    refine wC_reg ?_
    refine wS_set rfl rfl rfl (a_boxRx (by assumption) rfl (hT rfl) rfl rfl rfl) ?_
    refine wS_set rfl rfl rfl (a_assign rfl rfl) ?_
    refine wO_nil ?_
    refine wC_seq ?_
    refine wC_reg ?_
    refine wS_set rfl rfl rfl (a_loadRx (by assumption) rfl rfl (hT rfl) rfl rfl) ?_
    refine wS_set rfl rfl rfl (a_move rfl rfl) ?_
    refine wS_set rfl rfl rfl (a_call rfl rfl fn12 rfl rfl (k)) ?_
    refine wS_set rfl rfl rfl (a_move rfl rfl) ?_
    refine wS_skip rfl rfl rfl ?_
    refine wS_skip rfl rfl rfl ?_
    refine wS_set rfl rfl rfl (a_pickF rfl rfl) ?_
    refine wS_set rfl rfl rfl (a_move rfl rfl) ?_
    refine wS_skip rfl rfl rfl ?_
    refine wS_skip rfl rfl rfl ?_
    refine wS_skip rfl rfl rfl ?_
    refine wS_set rfl rfl rfl (a_pickF rfl rfl) ?_
    refine wS_set rfl rfl rfl (a_assign rfl rfl) ?_
    refine wO_nil ?_
    refine wC_ret ?_
    exact end_tmp rfl rfl
  | true =>
    rw [h1] at k
    have hs := shal_subs r 0 _ (of_decide_eq_true h1)
    have k2 := ev15 hw
    have k3 := ev35 r hw (by have := of_decide_eq_true h1; omega)
    have hd := depR_le r
    cases h2 : validR r 0 with
    | false =>
      rw [h2] at k2
      refine wC_seq ?_
      refine wC_reg ?_
      refine wS_set rfl rfl rfl (a_boxRx (by assumption) rfl (hT rfl) rfl rfl rfl) ?_
      refine wS_set rfl rfl rfl (a_assign rfl rfl) ?_
      refine wO_nil ?_
      refine wC_seq ?_
      refine wC_reg ?_
      refine wS_set rfl rfl rfl (a_loadRx (by assumption) rfl rfl (hT rfl) rfl rfl) ?_
      refine wS_set rfl rfl rfl (a_move rfl rfl) ?_
      refine wS_set rfl rfl rfl (a_call rfl rfl fn12 rfl rfl (k)) ?_
      refine wS_set rfl rfl rfl (a_move rfl rfl) ?_
      refine wS_set rfl rfl rfl (a_loadRx (by assumption) rfl rfl (hT rfl) rfl rfl) ?_
      refine wS_set rfl rfl rfl (a_call rfl rfl fn15 rfl rfl (k2)) ?_
      refine wS_set rfl rfl rfl (a_pickT rfl rfl) ?_
      refine wS_set rfl rfl rfl (a_move rfl rfl) ?_
      refine wS_skip rfl rfl rfl ?_
      refine wS_skip rfl rfl rfl ?_
      refine wS_skip rfl rfl rfl ?_
      refine wS_set rfl rfl rfl (a_pickF rfl rfl) ?_
      refine wS_set rfl rfl rfl (a_assign rfl rfl) ?_
      refine wO_nil ?_
      refine wC_ret ?_
      exact end_tmp rfl rfl
    | true =>
      rw [h2] at k2
      refine wC_seq ?_
      refine wC_reg ?_
      refine wS_set rfl rfl rfl (a_boxRx (by assumption) rfl (hT rfl) rfl rfl rfl) ?_
      refine wS_set rfl rfl rfl (a_assign rfl rfl) ?_
      refine wO_nil ?_
      refine wC_seq ?_
      refine wC_reg ?_
      refine wS_set rfl rfl rfl (a_loadRx (by assumption) rfl rfl (hT rfl) rfl rfl) ?_
      refine wS_set rfl rfl rfl (a_move rfl rfl) ?_
      refine wS_set rfl rfl rfl (a_call rfl rfl fn12 rfl rfl (k)) ?_
      refine wS_set rfl rfl rfl (a_move rfl rfl) ?_
      refine wS_set rfl rfl rfl (a_loadRx (by assumption) rfl rfl (hT rfl) rfl rfl) ?_
      refine wS_set rfl rfl rfl (a_call rfl rfl fn15 rfl rfl (k2)) ?_
      refine wS_set rfl rfl rfl (a_pickT rfl rfl) ?_
      refine wS_set rfl rfl rfl (a_move rfl rfl) ?_
      refine wS_set rfl rfl rfl (a_loadRx (by assumption) rfl rfl (hT rfl) rfl rfl) ?_
      refine wS_set rfl rfl rfl (a_call rfl rfl fn35 rfl rfl (k3)) ?_
      refine wS_set rfl rfl rfl (n_leq (b := 8) rfl rfl ) ?_
      refine wS_set rfl rfl rfl (a_pickT rfl rfl) ?_
      refine wS_set rfl rfl rfl (a_assign rfl rfl) ?_
      refine wO_nil ?_
      refine wC_ret ?_
      exact end_tmp rfl rfl

end Go.Proofs.YtjppkpjlbbkdnaaDoor

namespace Go.Proofs.YtjppkpjlbbkdnaaDoor
open Go Go.Dv

set_option maxRecDepth 100000 in
set_option maxHeartbeats 16000000 in
theorem ev43 {B : Nat} (hB : B ≤ 2147483648) : ∀ (r : Rx), r.good B → ∀ (s : ByteArray) (fr : List Bool) (y : X), s.size ≤ 2147483648 → fr.length = s.size + 1 → (y = .v (.sl 1 (rowP fr)) ∨ y = .lent 1 (rowP fr)) →
    FnEv tab ext 43 [.v (rxV r), .v (strV s), y] [] (.ret [.sl 1 (rowP (semOut (Mat r) (bl s) fr))], []) := by
  intro r
  induction r using Rx.ind' with
  | h r ih =>
    intro hg s fr y hs hfr hy
    have hw := hg.wf
    have hbl := bl_len s
    have hS' : ∀ ob, SlX 1 19 ob y (rowP fr) := by
      intro ob
      rcases hy with rfl | rfl
      · exact .inl rfl
      · exact .inr (.inl rfl)
    have e0 := rowP_rep (s.size + 1)
    have e1 := rowP_len (List.replicate (s.size + 1) false)
    have e2 := rowP_len fr
    have e6 := rxRows_len r.l
    have hlB := hg.len
    have hsl := semOut_len (Mat r) (bl s) fr
    have e7 := rowP_len (semOut (Mat r) (bl s) fr)
    have hn7 : (rowP (semOut (Mat r) (bl s) fr)).length = s.size + 1 := by rw [e7, hsl, hbl]
    have hn2 : (rowP fr).length = s.size + 1 := by rw [e2, hfr]
    have e0b : List.replicate (s.size + 1) [boolV false] = rowP (List.replicate ((bl s).length + 1) false) := by rw [hbl]; exact e0
    rw [List.length_replicate] at e1
    refine fn_go _ no43 fn43 rfl rfl rfl ?_
    refine wC_seq ?_
    refine wC_reg ?_
    refine wS_set rfl rfl rfl (a_boxRx (by assumption) rfl (hT rfl) rfl rfl rfl) ?_
    refine wS_set rfl rfl rfl (a_assignNil rfl (hT rfl) rfl (hT rfl)) ?_
    refine wO_nil ?_
    refine wC_seq ?_
    refine wC_reg ?_
    refine wS_set rfl rfl rfl (a_move rfl rfl) ?_
    refine wS_set rfl rfl rfl (a_lenStr rfl rfl (hT rfl) rfl) ?_
    refine wS_set rfl rfl rfl (n_add (b := 1) rfl rfl (by simp only [capN]; omega)) ?_
    refine wS_set rfl rfl rfl (a_make (n := s.size + 1) rfl rfl (hT rfl) rfl (hT rfl) rfl rfl (by simp only [big]; omega) rfl rfl) ?_
    refine wS_set rfl rfl rfl (a_assign rfl rfl) ?_
    refine wO_nil ?_
    refine wC_seq ?_
    refine wC_seq ?_
    refine wC_reg ?_
    refine wS_set rfl rfl rfl (a_fieldAddrA rfl (hT rfl) rfl rfl (hT rfl) rfl) ?_
    refine wS_set rfl rfl rfl (a_loadK rfl rfl (hT rfl) rfl) ?_
    refine wO_nil ?_
    refine wC_blockI (fun ρ => ∃ x, SlX 1 19 ρ.ob x (rowP (semOut (Mat r) (bl s) fr)) ∧ (∀ z es, x ≠ .lent z es) ∧ PinSt 155 [(7, x)] [] ρ) ?_ (fun ρ hi => ?_)
    · by_cases h2 : r.k = 2
      · have hsem : semOut (Mat r) (bl s) fr = fr := ((sem_id (by omega)).congr fun z => (Mat.of2 h2).symm).eq.symm
        rw [hsem]
        refine wC_seq ?_
        refine wC_reg ?_
        refine wS_set rfl rfl rfl (i_eql (p := true) rfl rfl (decide_eq_true (by omega))) ?_
        refine wS_set rfl rfl rfl (a_assign rfl rfl) ?_
        refine wO_nil ?_
        refine wC_cond (p := true) rfl (fun _ => ?_) (fun hc => absurd hc (by decide))
        refine wC_reg ?_
        refine wS_set rfl rfl rfl (a_move rfl rfl) ?_
        refine wS_set rfl rfl rfl (a_moveS (hS' _) (hT rfl) rfl (hT rfl) rfl) ?_
        refine wS_copyS (n := s.size + 1) rfl rfl (by simp) (hS' _) (by omega) rfl (hT rfl) rfl (hT rfl) rfl rfl rfl (fun v26 rd26 wr26 => ?_)
        refine wO_nil ?_
        exact ⟨_, slx_own rfl hn2 rfl, (fun z es h => by cases h), pinned_mk rfl ⟨rfl, trivial⟩ trivial⟩
      by_cases h3 : r.k = 3
      · refine wC_seq ?_
        refine wC_reg ?_
        refine wS_set rfl rfl rfl (i_eql (p := false) rfl rfl (decide_eq_false (by omega))) ?_
        refine wS_set rfl rfl rfl (a_assign rfl rfl) ?_
        refine wO_nil ?_
        refine wC_cond (p := false) rfl (fun hc => absurd hc (by decide)) (fun _ => ?_)
        refine wC_seq ?_
        refine wC_reg ?_
        refine wS_set rfl rfl rfl (i_eql (p := true) rfl rfl (decide_eq_true (by omega))) ?_
        refine wS_set rfl rfl rfl (a_assign rfl rfl) ?_
        refine wO_nil ?_
        refine wC_cond (p := true) rfl (fun _ => ?_) (fun hc => absurd hc (by decide))
        refine wC_seq ?_
        refine wC_reg ?_
        refine wS_set rfl rfl rfl (a_assign rfl rfl) ?_
        refine wO_nil ?_
        refine wC_block ?_
        refine wC_loop (fun m ρ => ∃ (i : Nat) (o : List Bool), i + m = s.size ∧ SetTo fr (fun j => has r.s ((bl s).getD j 0)) o s.size i ∧
            PinSt 155 [(1, .v (strV s)), (2, y), (3, .addr 3 1 0), (7, .own 19 1 0 (s.size + 1)), (8, natX .i64 i)] [(3, .box 1 (rxB r)), (19, .row 1 true 1 (rowP o))] ρ) (fun m ρ hi => ?_) s.size
          ⟨0, _, by omega, setTo_0 _ _ _, pinned_mk rfl ⟨rfl, rfl, rfl, rfl, rfl, trivial⟩ ⟨rfl, congrArg (Ob.row 1 true 1) e0, trivial⟩⟩
        obtain ⟨i, o, hm, ho, hi⟩ := hi
        replace hi := hi.form
        obtain ⟨g, h, rfl⟩ := hi
        have hol := ho.1
        have e3 := rowP_len o
        by_cases hlt : i < s.size
        · have hbt := byteAt_lt s i
          have hbi : (bl s).getD i 0 = (byteAt s i).toNat := by rw [List.getD_eq_getElem?_getD, bl_at hlt]; rfl
          cases hf : fr.getD i false with
          | false =>
            refine wC_seq ?_
            refine wC_seq ?_
            refine wC_reg ?_
            refine wS_set rfl rfl rfl (a_move rfl rfl) ?_
            refine wS_set rfl rfl rfl (a_move rfl rfl) ?_
            refine wS_set rfl rfl rfl (a_lenStr rfl rfl (hT rfl) rfl) ?_
            refine wS_set rfl rfl rfl (b_lss (p := true) rfl rfl (decide_eq_true (by omega))) ?_
            refine wO_nil ?_
            refine wC_cond (p := true) rfl (fun _ => ?_) (fun hc => absurd hc (by decide))
            refine wC_skip ?_
            refine wC_seq ?_
            refine wC_block ?_
            refine wC_regD (by kernel_rfl) ?_
            refine wS_set rfl rfl rfl (a_move rfl rfl) ?_
            refine wS_set rfl rfl rfl (a_move rfl rfl) ?_
            refine wS_set rfl rfl rfl (n_add (b := 1) rfl rfl (by simp only [capN]; omega)) ?_
            refine wS_set rfl rfl rfl (a_moveS (hS' _) (hT rfl) rfl (hT rfl) rfl) ?_
            refine wS_set rfl rfl rfl (a_move rfl rfl) ?_
            refine wS_idxS (hS' _) rfl (rowP_is (by omega) hf) (hT rfl) rfl (hT rfl) rfl rfl rfl (fun w40 rd40 he40 => ?_)
            refine wS_loadS1 he40 (hT rfl) rfl rfl rfl (fun rd41 => ?_)
            refine wS_set rfl rfl rfl (a_move rfl rfl) ?_
            refine wS_skip rfl rfl rfl ?_
            refine wS_skip rfl rfl rfl ?_
            refine wS_skip rfl rfl rfl ?_
            refine wS_skip rfl rfl rfl ?_
            refine wS_skip rfl rfl rfl ?_
            refine wS_skip rfl rfl rfl ?_
            refine wS_skip rfl rfl rfl ?_
            refine wS_set rfl rfl rfl (a_pickF rfl rfl) ?_
            refine wS_set rfl rfl rfl (n_indexAddrP rfl rfl rfl (hT rfl) rfl (hT rfl) rfl (by omega)) ?_
            refine wS_eff rfl rfl (a_storeI rfl rfl rfl rfl ⟨_, rowP_at (by omega)⟩ (hT rfl) rfl rfl) ?_
            refine wO_nil ⟨rfl, by kernel_rfl, ?_⟩
            refine wC_reg ?_
            refine wS_set rfl rfl rfl (a_move rfl rfl) ?_
            refine wS_set rfl rfl rfl (n_add (b := 1) rfl rfl (by simp only [capN]; omega)) ?_
            refine wS_set rfl rfl rfl (a_assign rfl rfl) ?_
            refine wO_nil ?_
            exact ⟨m - 1, by omega, i + 1, _, by omega, setTo_step (p := false) ho (by omega) (by rw [hf]; rfl), pinned_mk rfl ⟨rfl, rfl, rfl, rfl, rfl, trivial⟩ ⟨rfl, congrArg (Ob.row 1 true 1) (rowP_set _ _ _), trivial⟩⟩
          | true =>
            cases hh : has r.s (byteAt s i).toNat with
            | false =>
              have hk := ev52 hbt hw.set
              rw [hh] at hk
              refine wC_seq ?_
              refine wC_seq ?_
              refine wC_reg ?_
              refine wS_set rfl rfl rfl (a_move rfl rfl) ?_
              refine wS_set rfl rfl rfl (a_move rfl rfl) ?_
              refine wS_set rfl rfl rfl (a_lenStr rfl rfl (hT rfl) rfl) ?_
              refine wS_set rfl rfl rfl (b_lss (p := true) rfl rfl (decide_eq_true (by omega))) ?_
              refine wO_nil ?_
              refine wC_cond (p := true) rfl (fun _ => ?_) (fun hc => absurd hc (by decide))
              refine wC_skip ?_
              refine wC_seq ?_
              refine wC_block ?_
              refine wC_regD (by kernel_rfl) ?_
              refine wS_set rfl rfl rfl (a_move rfl rfl) ?_
              refine wS_set rfl rfl rfl (a_move rfl rfl) ?_
              refine wS_set rfl rfl rfl (n_add (b := 1) rfl rfl (by simp only [capN]; omega)) ?_
              refine wS_set rfl rfl rfl (a_moveS (hS' _) (hT rfl) rfl (hT rfl) rfl) ?_
              refine wS_set rfl rfl rfl (a_move rfl rfl) ?_
              refine wS_idxS (hS' _) rfl (rowP_is (by omega) hf) (hT rfl) rfl (hT rfl) rfl rfl rfl (fun w40 rd40 he40 => ?_)
              refine wS_loadS1 he40 (hT rfl) rfl rfl rfl (fun rd41 => ?_)
              refine wS_set rfl rfl rfl (a_move rfl rfl) ?_
              refine wS_set rfl rfl rfl (a_fieldAddrA rfl (hT rfl) rfl rfl (hT rfl) rfl) ?_
              refine wS_set rfl rfl rfl (a_loadSet (by assumption) rfl rfl (hT rfl) rfl rfl) ?_
              refine wS_set rfl rfl rfl (a_move rfl rfl) ?_
              refine wS_set rfl rfl rfl (a_move rfl rfl) ?_
              refine wS_set rfl rfl rfl (n_byteAt (by omega) rfl rfl (hT rfl) rfl) ?_
              refine wS_set rfl rfl rfl (n_conv rfl (hT rfl) rfl (hT rfl) rfl (by simp only [capN]; omega)) ?_
              refine wS_set rfl rfl rfl (a_call rfl rfl fn52 rfl rfl (hk)) ?_
              refine wS_set rfl rfl rfl (a_pickT rfl rfl) ?_
              refine wS_set rfl rfl rfl (n_indexAddrP rfl rfl rfl (hT rfl) rfl (hT rfl) rfl (by omega)) ?_
              refine wS_eff rfl rfl (a_storeI rfl rfl rfl rfl ⟨_, rowP_at (by omega)⟩ (hT rfl) rfl rfl) ?_
              refine wO_nil ⟨rfl, by kernel_rfl, ?_⟩
              refine wC_reg ?_
              refine wS_set rfl rfl rfl (a_move rfl rfl) ?_
              refine wS_set rfl rfl rfl (n_add (b := 1) rfl rfl (by simp only [capN]; omega)) ?_
              refine wS_set rfl rfl rfl (a_assign rfl rfl) ?_
              refine wO_nil ?_
              exact ⟨m - 1, by omega, i + 1, _, by omega, setTo_step (p := false) ho (by omega) (by rw [hf, hbi, hh]; rfl), pinned_mk rfl ⟨rfl, rfl, rfl, rfl, rfl, trivial⟩ ⟨rfl, congrArg (Ob.row 1 true 1) (rowP_set _ _ _), trivial⟩⟩
            | true =>
              have hk := ev52 hbt hw.set
              rw [hh] at hk
              refine wC_seq ?_
              refine wC_seq ?_
              refine wC_reg ?_
              refine wS_set rfl rfl rfl (a_move rfl rfl) ?_
              refine wS_set rfl rfl rfl (a_move rfl rfl) ?_
              refine wS_set rfl rfl rfl (a_lenStr rfl rfl (hT rfl) rfl) ?_
              refine wS_set rfl rfl rfl (b_lss (p := true) rfl rfl (decide_eq_true (by omega))) ?_
              refine wO_nil ?_
              refine wC_cond (p := true) rfl (fun _ => ?_) (fun hc => absurd hc (by decide))
              refine wC_skip ?_
              refine wC_seq ?_
              refine wC_block ?_
              refine wC_regD (by kernel_rfl) ?_
              refine wS_set rfl rfl rfl (a_move rfl rfl) ?_
              refine wS_set rfl rfl rfl (a_move rfl rfl) ?_
              refine wS_set rfl rfl rfl (n_add (b := 1) rfl rfl (by simp only [capN]; omega)) ?_
              refine wS_set rfl rfl rfl (a_moveS (hS' _) (hT rfl) rfl (hT rfl) rfl) ?_
              refine wS_set rfl rfl rfl (a_move rfl rfl) ?_
              refine wS_idxS (hS' _) rfl (rowP_is (by omega) hf) (hT rfl) rfl (hT rfl) rfl rfl rfl (fun w40 rd40 he40 => ?_)
              refine wS_loadS1 he40 (hT rfl) rfl rfl rfl (fun rd41 => ?_)
              refine wS_set rfl rfl rfl (a_move rfl rfl) ?_
              refine wS_set rfl rfl rfl (a_fieldAddrA rfl (hT rfl) rfl rfl (hT rfl) rfl) ?_
              refine wS_set rfl rfl rfl (a_loadSet (by assumption) rfl rfl (hT rfl) rfl rfl) ?_
              refine wS_set rfl rfl rfl (a_move rfl rfl) ?_
              refine wS_set rfl rfl rfl (a_move rfl rfl) ?_
              refine wS_set rfl rfl rfl (n_byteAt (by omega) rfl rfl (hT rfl) rfl) ?_
              refine wS_set rfl rfl rfl (n_conv rfl (hT rfl) rfl (hT rfl) rfl (by simp only [capN]; omega)) ?_
              refine wS_set rfl rfl rfl (a_call rfl rfl fn52 rfl rfl (hk)) ?_
              refine wS_set rfl rfl rfl (a_pickT rfl rfl) ?_
              refine wS_set rfl rfl rfl (n_indexAddrP rfl rfl rfl (hT rfl) rfl (hT rfl) rfl (by omega)) ?_
              refine wS_eff rfl rfl (a_storeI rfl rfl rfl rfl ⟨_, rowP_at (by omega)⟩ (hT rfl) rfl rfl) ?_
              refine wO_nil ⟨rfl, by kernel_rfl, ?_⟩
              refine wC_reg ?_
              refine wS_set rfl rfl rfl (a_move rfl rfl) ?_
              refine wS_set rfl rfl rfl (n_add (b := 1) rfl rfl (by simp only [capN]; omega)) ?_
              refine wS_set rfl rfl rfl (a_assign rfl rfl) ?_
              refine wO_nil ?_
              exact ⟨m - 1, by omega, i + 1, _, by omega, setTo_step (p := true) ho (by omega) (by rw [hf, hbi, hh]; rfl), pinned_mk rfl ⟨rfl, rfl, rfl, rfl, rfl, trivial⟩ ⟨rfl, congrArg (Ob.row 1 true 1) (rowP_set _ _ _), trivial⟩⟩
        · obtain rfl : i = s.size := by omega
          have hsem := (sem_set h3 (by omega) ho.2.1 (fun j hj => setTo_end ho j (by omega))).eq
          refine wC_seq ?_
          refine wC_seq ?_
          refine wC_reg ?_
          refine wS_set rfl rfl rfl (a_move rfl rfl) ?_
          refine wS_set rfl rfl rfl (a_move rfl rfl) ?_
          refine wS_set rfl rfl rfl (a_lenStr rfl rfl (hT rfl) rfl) ?_
          refine wS_set rfl rfl rfl (b_lss (p := false) rfl rfl (decide_eq_false (by omega))) ?_
          refine wO_nil ?_
          refine wC_cond (p := false) rfl (fun hc => absurd hc (by decide)) (fun _ => ?_)
          refine wC_exit ?_
          exact ⟨_, slx_own rfl hn7 (congrArg (fun l => Ob.row 1 true 1 (rowP l)) hsem), (fun z es h => by cases h), pinned_mk rfl ⟨rfl, trivial⟩ trivial⟩
      by_cases h4 : r.k = 4
      · refine wC_seq ?_
        refine wC_reg ?_
        refine wS_set rfl rfl rfl (i_eql (p := false) rfl rfl (decide_eq_false (by omega))) ?_
        refine wS_set rfl rfl rfl (a_assign rfl rfl) ?_
        refine wO_nil ?_
        refine wC_cond (p := false) rfl (fun hc => absurd hc (by decide)) (fun _ => ?_)
        refine wC_seq ?_
        refine wC_reg ?_
        refine wS_set rfl rfl rfl (i_eql (p := false) rfl rfl (decide_eq_false (by omega))) ?_
        refine wS_set rfl rfl rfl (a_assign rfl rfl) ?_
        refine wO_nil ?_
        refine wC_cond (p := false) rfl (fun hc => absurd hc (by decide)) (fun _ => ?_)
        refine wC_seq ?_
        refine wC_reg ?_
        refine wS_set rfl rfl rfl (i_eql (p := true) rfl rfl (decide_eq_true (by omega))) ?_
        refine wS_set rfl rfl rfl (a_assign rfl rfl) ?_
        refine wO_nil ?_
        refine wC_cond (p := true) rfl (fun _ => ?_) (fun hc => absurd hc (by decide))
        refine wC_seq ?_
        refine wC_reg ?_
        refine wS_set rfl rfl rfl (a_move rfl rfl) ?_
        refine wS_set rfl rfl rfl (a_moveS (hS' _) (hT rfl) rfl (hT rfl) rfl) ?_
        refine wS_copyS (n := s.size + 1) rfl rfl (by simp) (hS' _) (by omega) rfl (hT rfl) rfl (hT rfl) rfl rfl rfl (fun v56 rd56 wr56 => ?_)
        refine wO_nil ?_
        refine wC_seq ?_
        refine wC_reg ?_
        refine wS_set rfl rfl rfl (a_assign rfl rfl) ?_
        refine wO_nil ?_
        refine wC_block ?_
        refine wC_loop (fun m ρ => ∃ (i : Nat) (o : List Bool) (x : X), i + m = r.l.length ∧ Go.Dv.Sem (MatL (r.l.take i)) (bl s) fr o ∧ SlX 1 19 ρ.ob x (rowP o) ∧ (∀ z es, x ≠ .lent z es) ∧
            PinSt 155 [(1, .v (strV s)), (3, .addr 3 1 0), (7, x), (9, natX .i64 i)] [(3, .box 1 (rxB r))] ρ) (fun m ρ hi => ?_) r.l.length
          ⟨0, fr, _, by omega, sem_nilL (by omega), slx_own rfl hn2 rfl, (fun z es h => by cases h), pinned_mk rfl ⟨rfl, rfl, rfl, rfl, trivial⟩ ⟨rfl, trivial⟩⟩
        obtain ⟨i, o, x7, hm, ho, hx7, hnl, hi⟩ := hi
        replace hi := hi.form
        obtain ⟨g, h, rfl⟩ := hi
        simp only at hx7
        have hol := ho.1
        by_cases hlt : i < r.l.length
        · have hget : r.l[i]? = some (r.l[i]'hlt) := List.getElem?_eq_getElem hlt
          have hmem := List.getElem_mem hlt
          generalize r.l[i]'hlt = x at hget hmem
          have hgx := hg.kids x hmem
          have hwx := hgx.wf
          refine wC_seq ?_
          refine wC_seq ?_
          refine wC_reg ?_
          refine wS_set rfl rfl rfl (a_move rfl rfl) ?_
          refine wS_set rfl rfl rfl (a_fieldAddrA rfl (hT rfl) rfl rfl (hT rfl) rfl) ?_
          refine wS_set rfl rfl rfl (a_loadKids (by assumption) rfl rfl (hT rfl) rfl) ?_
          refine wS_set rfl rfl rfl (a_lenK rfl rfl (hT rfl) rfl) ?_
          refine wS_set rfl rfl rfl (b_lss (p := true) rfl rfl (decide_eq_true (by omega))) ?_
          refine wO_nil ?_
          refine wC_cond (p := true) rfl (fun _ => ?_) (fun hc => absurd hc (by decide))
          refine wC_skip ?_
          refine wC_seq ?_
          refine wC_block ?_
          refine wC_reg ?_
          refine wS_set rfl rfl rfl (a_fieldAddrA rfl (hT rfl) rfl rfl (hT rfl) rfl) ?_
          refine wS_set rfl rfl rfl (a_loadKids (by assumption) rfl rfl (hT rfl) rfl) ?_
          refine wS_set rfl rfl rfl (a_move rfl rfl) ?_
          refine wS_set rfl rfl rfl (n_indexAddrV (a := i) rfl rfl (hT rfl) rfl (hT rfl) rfl (rxRows_get hget)) ?_
          refine wS_set rfl rfl rfl (a_loadRxR (by assumption) rfl (hT rfl) rfl rfl) ?_
          refine wS_set rfl rfl rfl (a_move rfl rfl) ?_
          refine wS_set rfl rfl rfl (a_moveS (hx7.keep rfl) (hT rfl) rfl (hT rfl) rfl) ?_
          refine wS_callS3 (hx7.keep rfl) rfl rfl rfl fn43 rfl (fun y2 hy2 => ih x hmem hgx s o y2 hs (by omega) hy2) rfl rfl rfl rfl rfl (fun rd71 => ?_)
          refine wS_set rfl rfl rfl (a_assign rfl rfl) ?_
          refine wO_nil ?_
          refine wC_reg ?_
          refine wS_set rfl rfl rfl (a_move rfl rfl) ?_
          refine wS_set rfl rfl rfl (n_add (b := 1) rfl rfl (by simp only [capN]; omega)) ?_
          refine wS_set rfl rfl rfl (a_assign rfl rfl) ?_
          refine wO_nil ?_
          exact ⟨m - 1, by omega, i + 1, _, _, by omega, by rw [take_snoc hget]; exact sem_snocL ho (sem_out _ _ _), .inl rfl, (fun z es h => by cases h), pinned_mk rfl ⟨rfl, rfl, rfl, rfl, trivial⟩ ⟨rfl, trivial⟩⟩
        · obtain rfl : i = r.l.length := by omega
          rw [List.take_length] at ho
          have hsem := (ho.congr fun z => (Mat.of4 h4).symm).eq
          refine wC_seq ?_
          refine wC_seq ?_
          refine wC_reg ?_
          refine wS_set rfl rfl rfl (a_move rfl rfl) ?_
          refine wS_set rfl rfl rfl (a_fieldAddrA rfl (hT rfl) rfl rfl (hT rfl) rfl) ?_
          refine wS_set rfl rfl rfl (a_loadKids (by assumption) rfl rfl (hT rfl) rfl) ?_
          refine wS_set rfl rfl rfl (a_lenK rfl rfl (hT rfl) rfl) ?_
          refine wS_set rfl rfl rfl (b_lss (p := false) rfl rfl (decide_eq_false (by omega))) ?_
          refine wO_nil ?_
          refine wC_cond (p := false) rfl (fun hc => absurd hc (by decide)) (fun _ => ?_)
          refine wC_exit ?_
          exact ⟨_, hsem ▸ hx7.keep rfl, hnl, pinned_mk rfl ⟨rfl, trivial⟩ trivial⟩
      by_cases h5 : r.k = 5
      · refine wC_seq ?_
        refine wC_reg ?_
        refine wS_set rfl rfl rfl (i_eql (p := false) rfl rfl (decide_eq_false (by omega))) ?_
        refine wS_set rfl rfl rfl (a_assign rfl rfl) ?_
        refine wO_nil ?_
        refine wC_cond (p := false) rfl (fun hc => absurd hc (by decide)) (fun _ => ?_)
        refine wC_seq ?_
        refine wC_reg ?_
        refine wS_set rfl rfl rfl (i_eql (p := false) rfl rfl (decide_eq_false (by omega))) ?_
        refine wS_set rfl rfl rfl (a_assign rfl rfl) ?_
        refine wO_nil ?_
        refine wC_cond (p := false) rfl (fun hc => absurd hc (by decide)) (fun _ => ?_)
        refine wC_seq ?_
        refine wC_reg ?_
        refine wS_set rfl rfl rfl (i_eql (p := false) rfl rfl (decide_eq_false (by omega))) ?_
        refine wS_set rfl rfl rfl (a_assign rfl rfl) ?_
        refine wO_nil ?_
        refine wC_cond (p := false) rfl (fun hc => absurd hc (by decide)) (fun _ => ?_)
        refine wC_seq ?_
        refine wC_reg ?_
        refine wS_set rfl rfl rfl (i_eql (p := true) rfl rfl (decide_eq_true (by omega))) ?_
        refine wS_set rfl rfl rfl (a_assign rfl rfl) ?_
        refine wO_nil ?_
        refine wC_cond (p := true) rfl (fun _ => ?_) (fun hc => absurd hc (by decide))
        refine wC_seq ?_
        refine wC_reg ?_
        refine wS_set rfl rfl rfl (a_assign rfl rfl) ?_
        refine wO_nil ?_
        refine wC_block ?_
        refine wC_loop (fun m ρ => ∃ (i : Nat) (o : List Bool), i + m = r.l.length ∧ Go.Dv.Sem (AnyM (r.l.take i)) (bl s) fr o ∧
            PinSt 155 [(1, .v (strV s)), (2, y), (3, .addr 3 1 0), (7, .own 19 1 0 (s.size + 1)), (10, natX .i64 i)] [(3, .box 1 (rxB r)), (19, .row 1 true 1 (rowP o))] ρ) (fun m ρ hi => ?_) r.l.length
          ⟨0, _, by omega, by rw [List.take_zero]; exact sem_zeroA, pinned_mk rfl ⟨rfl, rfl, rfl, rfl, rfl, trivial⟩ ⟨rfl, congrArg (Ob.row 1 true 1) e0b, trivial⟩⟩
        obtain ⟨i, o, hm, ho, hi⟩ := hi
        replace hi := hi.form
        obtain ⟨g, h, rfl⟩ := hi
        have hol := ho.1
        by_cases hlt : i < r.l.length
        · have hget : r.l[i]? = some (r.l[i]'hlt) := List.getElem?_eq_getElem hlt
          have hmem := List.getElem_mem hlt
          generalize r.l[i]'hlt = x at hget hmem
          have hgx := hg.kids x hmem
          have hwx := hgx.wf
          refine wC_seq ?_
          refine wC_seq ?_
          refine wC_reg ?_
          refine wS_set rfl rfl rfl (a_move rfl rfl) ?_
          refine wS_set rfl rfl rfl (a_fieldAddrA rfl (hT rfl) rfl rfl (hT rfl) rfl) ?_
          refine wS_set rfl rfl rfl (a_loadKids (by assumption) rfl rfl (hT rfl) rfl) ?_
          refine wS_set rfl rfl rfl (a_lenK rfl rfl (hT rfl) rfl) ?_
          refine wS_set rfl rfl rfl (b_lss (p := true) rfl rfl (decide_eq_true (by omega))) ?_
          refine wO_nil ?_
          refine wC_cond (p := true) rfl (fun _ => ?_) (fun hc => absurd hc (by decide))
          refine wC_skip ?_
          refine wC_seq ?_
          refine wC_block ?_
          refine wC_seq ?_
          refine wC_reg ?_
          refine wS_set rfl rfl rfl (a_fieldAddrA rfl (hT rfl) rfl rfl (hT rfl) rfl) ?_
          refine wS_set rfl rfl rfl (a_loadKids (by assumption) rfl rfl (hT rfl) rfl) ?_
          refine wS_set rfl rfl rfl (a_move rfl rfl) ?_
          refine wS_set rfl rfl rfl (n_indexAddrV (a := i) rfl rfl (hT rfl) rfl (hT rfl) rfl (rxRows_get hget)) ?_
          refine wS_set rfl rfl rfl (a_loadRxR (by assumption) rfl (hT rfl) rfl rfl) ?_
          refine wS_set rfl rfl rfl (a_move rfl rfl) ?_
          refine wS_set rfl rfl rfl (a_moveS (hS' _) (hT rfl) rfl (hT rfl) rfl) ?_
          refine wS_callS3 (hS' _) rfl rfl rfl fn43 rfl (fun y2 hy2 => ih x hmem hgx s fr y2 hs (by omega) hy2) rfl rfl rfl rfl rfl (fun rd88 => ?_)
          refine wS_set rfl rfl rfl (a_assign rfl rfl) ?_
          refine wO_nil ?_
          refine wC_seq ?_
          refine wC_reg ?_
          refine wS_set rfl rfl rfl (a_assign rfl rfl) ?_
          refine wO_nil ?_
          refine wC_block ?_
          have hno := sem_out (Mat x) (bl s) fr
          have hnl := hno.1
          generalize semOut (Mat x) (bl s) fr = nx at hno hnl
          have en := rowP_len nx
          refine wC_loop (fun m2 ρ => ∃ (l : Nat) (o2 : List Bool), l + m2 = s.size + 1 ∧ OrTo o nx o2 l ∧
              PinSt 155 [(1, .v (strV s)), (2, y), (3, .addr 3 1 0), (7, .own 19 1 0 (s.size + 1)), (10, natX .i64 i), (11, .v (.sl 1 (rowP nx))), (12, natX .i64 l)] [(3, .box 1 (rxB r)), (19, .row 1 true 1 (rowP o2))] ρ) (fun m2 ρ hi => ?_) (s.size + 1)
            ⟨0, o, by omega, orTo_0 _ _, pinned_mk rfl ⟨rfl, rfl, rfl, rfl, rfl, rfl, rfl, trivial⟩ ⟨rfl, rfl, trivial⟩⟩
          obtain ⟨l, o2, hm2, ho2, hi⟩ := hi
          replace hi := hi.form
          clear h
          obtain ⟨g, h, rfl⟩ := hi
          have hol2 := ho2.1
          have e3 := rowP_len o2
          by_cases hlt2 : l < s.size + 1
          · cases ha : o2.getD l false with
            | true =>
              refine wC_seq ?_
              refine wC_seq ?_
              refine wC_reg ?_
              refine wS_set rfl rfl rfl (a_move rfl rfl) ?_
              refine wS_set rfl rfl rfl (a_move rfl rfl) ?_
              refine wS_set rfl rfl rfl (a_lenV rfl rfl (hT rfl) rfl) ?_
              refine wS_set rfl rfl rfl (b_lss (p := true) rfl rfl (decide_eq_true (by omega))) ?_
              refine wO_nil ?_
              refine wC_cond (p := true) rfl (fun _ => ?_) (fun hc => absurd hc (by decide))
              refine wC_skip ?_
              refine wC_seq ?_
              refine wC_block ?_
              refine wC_reg ?_
              refine wS_set rfl rfl rfl (a_move rfl rfl) ?_
              refine wS_set rfl rfl rfl (a_move rfl rfl) ?_
              refine wS_set rfl rfl rfl (a_move rfl rfl) ?_
              refine wS_set rfl rfl rfl (a_move rfl rfl) ?_
              refine wS_set rfl rfl rfl (n_indexAddrP rfl rfl rfl (hT rfl) rfl (hT rfl) rfl (by omega)) ?_
              refine wS_set rfl rfl rfl (a_loadE1 rfl rfl (rowP_is (by omega) ha) (hT rfl) rfl rfl) ?_
              refine wS_set rfl rfl rfl (a_move rfl rfl) ?_
              refine wS_skip rfl rfl rfl ?_
              refine wS_skip rfl rfl rfl ?_
              refine wS_skip rfl rfl rfl ?_
              refine wS_skip rfl rfl rfl ?_
              refine wS_set rfl rfl rfl (a_pickT rfl rfl) ?_
              refine wS_set rfl rfl rfl (n_indexAddrP rfl rfl rfl (hT rfl) rfl (hT rfl) rfl (by omega)) ?_
              refine wS_eff rfl rfl (a_storeI rfl rfl rfl rfl ⟨_, rowP_at (by omega)⟩ (hT rfl) rfl rfl) ?_
              refine wO_nil ?_
              refine wC_reg ?_
              refine wS_set rfl rfl rfl (a_move rfl rfl) ?_
              refine wS_set rfl rfl rfl (n_add (b := 1) rfl rfl (by simp only [capN]; omega)) ?_
              refine wS_set rfl rfl rfl (a_assign rfl rfl) ?_
              refine wO_nil ?_
              exact ⟨m2 - 1, by omega, l + 1, _, by omega, orTo_step (p := true) ho2 (by omega) (by rw [ha]; rfl), pinned_mk rfl ⟨rfl, rfl, rfl, rfl, rfl, rfl, rfl, trivial⟩ ⟨rfl, congrArg (Ob.row 1 true 1) (rowP_set _ _ _), trivial⟩⟩
            | false =>
              cases hb : nx.getD l false with
              | true =>
                refine wC_seq ?_
                refine wC_seq ?_
                refine wC_reg ?_
                refine wS_set rfl rfl rfl (a_move rfl rfl) ?_
                refine wS_set rfl rfl rfl (a_move rfl rfl) ?_
                refine wS_set rfl rfl rfl (a_lenV rfl rfl (hT rfl) rfl) ?_
                refine wS_set rfl rfl rfl (b_lss (p := true) rfl rfl (decide_eq_true (by omega))) ?_
                refine wO_nil ?_
                refine wC_cond (p := true) rfl (fun _ => ?_) (fun hc => absurd hc (by decide))
                refine wC_skip ?_
                refine wC_seq ?_
                refine wC_block ?_
                refine wC_reg ?_
                refine wS_set rfl rfl rfl (a_move rfl rfl) ?_
                refine wS_set rfl rfl rfl (a_move rfl rfl) ?_
                refine wS_set rfl rfl rfl (a_move rfl rfl) ?_
                refine wS_set rfl rfl rfl (a_move rfl rfl) ?_
                refine wS_set rfl rfl rfl (n_indexAddrP rfl rfl rfl (hT rfl) rfl (hT rfl) rfl (by omega)) ?_
                refine wS_set rfl rfl rfl (a_loadE1 rfl rfl (rowP_is (by omega) ha) (hT rfl) rfl rfl) ?_
                refine wS_set rfl rfl rfl (a_move rfl rfl) ?_
                refine wS_set rfl rfl rfl (a_move rfl rfl) ?_
                refine wS_set rfl rfl rfl (a_move rfl rfl) ?_
                refine wS_set rfl rfl rfl (n_indexAddrV (a := l) rfl rfl (hT rfl) rfl (hT rfl) rfl (rowP_is (by omega) hb)) ?_
                refine wS_set rfl rfl rfl (a_loadR1 rfl (hT rfl) rfl rfl) ?_
                refine wS_set rfl rfl rfl (a_pickF rfl rfl) ?_
                refine wS_set rfl rfl rfl (n_indexAddrP rfl rfl rfl (hT rfl) rfl (hT rfl) rfl (by omega)) ?_
                refine wS_eff rfl rfl (a_storeI rfl rfl rfl rfl ⟨_, rowP_at (by omega)⟩ (hT rfl) rfl rfl) ?_
                refine wO_nil ?_
                refine wC_reg ?_
                refine wS_set rfl rfl rfl (a_move rfl rfl) ?_
                refine wS_set rfl rfl rfl (n_add (b := 1) rfl rfl (by simp only [capN]; omega)) ?_
                refine wS_set rfl rfl rfl (a_assign rfl rfl) ?_
                refine wO_nil ?_
                exact ⟨m2 - 1, by omega, l + 1, _, by omega, orTo_step (p := true) ho2 (by omega) (by rw [ha, hb]; rfl), pinned_mk rfl ⟨rfl, rfl, rfl, rfl, rfl, rfl, rfl, trivial⟩ ⟨rfl, congrArg (Ob.row 1 true 1) (rowP_set _ _ _), trivial⟩⟩
              | false =>
                refine wC_seq ?_
                refine wC_seq ?_
                refine wC_reg ?_
                refine wS_set rfl rfl rfl (a_move rfl rfl) ?_
                refine wS_set rfl rfl rfl (a_move rfl rfl) ?_
                refine wS_set rfl rfl rfl (a_lenV rfl rfl (hT rfl) rfl) ?_
                refine wS_set rfl rfl rfl (b_lss (p := true) rfl rfl (decide_eq_true (by omega))) ?_
                refine wO_nil ?_
                refine wC_cond (p := true) rfl (fun _ => ?_) (fun hc => absurd hc (by decide))
                refine wC_skip ?_
                refine wC_seq ?_
                refine wC_block ?_
                refine wC_reg ?_
                refine wS_set rfl rfl rfl (a_move rfl rfl) ?_
                refine wS_set rfl rfl rfl (a_move rfl rfl) ?_
                refine wS_set rfl rfl rfl (a_move rfl rfl) ?_
                refine wS_set rfl rfl rfl (a_move rfl rfl) ?_
                refine wS_set rfl rfl rfl (n_indexAddrP rfl rfl rfl (hT rfl) rfl (hT rfl) rfl (by omega)) ?_
                refine wS_set rfl rfl rfl (a_loadE1 rfl rfl (rowP_is (by omega) ha) (hT rfl) rfl rfl) ?_
                refine wS_set rfl rfl rfl (a_move rfl rfl) ?_
                refine wS_set rfl rfl rfl (a_move rfl rfl) ?_
                refine wS_set rfl rfl rfl (a_move rfl rfl) ?_
                refine wS_set rfl rfl rfl (n_indexAddrV (a := l) rfl rfl (hT rfl) rfl (hT rfl) rfl (rowP_is (by omega) hb)) ?_
                refine wS_set rfl rfl rfl (a_loadR1 rfl (hT rfl) rfl rfl) ?_
                refine wS_set rfl rfl rfl (a_pickF rfl rfl) ?_
                refine wS_set rfl rfl rfl (n_indexAddrP rfl rfl rfl (hT rfl) rfl (hT rfl) rfl (by omega)) ?_
                refine wS_eff rfl rfl (a_storeI rfl rfl rfl rfl ⟨_, rowP_at (by omega)⟩ (hT rfl) rfl rfl) ?_
                refine wO_nil ?_
                refine wC_reg ?_
                refine wS_set rfl rfl rfl (a_move rfl rfl) ?_
                refine wS_set rfl rfl rfl (n_add (b := 1) rfl rfl (by simp only [capN]; omega)) ?_
                refine wS_set rfl rfl rfl (a_assign rfl rfl) ?_
                refine wO_nil ?_
                exact ⟨m2 - 1, by omega, l + 1, _, by omega, orTo_step (p := false) ho2 (by omega) (by rw [ha, hb]; rfl), pinned_mk rfl ⟨rfl, rfl, rfl, rfl, rfl, rfl, rfl, trivial⟩ ⟨rfl, congrArg (Ob.row 1 true 1) (rowP_set _ _ _), trivial⟩⟩
          · obtain rfl : l = s.size + 1 := by omega
            refine wC_seq ?_
            refine wC_seq ?_
            refine wC_reg ?_
            refine wS_set rfl rfl rfl (a_move rfl rfl) ?_
            refine wS_set rfl rfl rfl (a_move rfl rfl) ?_
            refine wS_set rfl rfl rfl (a_lenV rfl rfl (hT rfl) rfl) ?_
            refine wS_set rfl rfl rfl (b_lss (p := false) rfl rfl (decide_eq_false (by omega))) ?_
            refine wO_nil ?_
            refine wC_cond (p := false) rfl (fun hc => absurd hc (by decide)) (fun _ => ?_)
            refine wC_exit ?_
            refine wC_reg ?_
            refine wS_set rfl rfl rfl (a_move rfl rfl) ?_
            refine wS_set rfl rfl rfl (n_add (b := 1) rfl rfl (by simp only [capN]; omega)) ?_
            refine wS_set rfl rfl rfl (a_assign rfl rfl) ?_
            refine wO_nil ?_
            exact ⟨m - 1, by omega, i + 1, o2, by omega, by rw [take_snoc hget]; exact sem_snocA ho hno (by rw [hbl]; exact ho2), pinned_mk rfl ⟨rfl, rfl, rfl, rfl, rfl, trivial⟩ ⟨rfl, rfl, trivial⟩⟩
        · obtain rfl : i = r.l.length := by omega
          rw [List.take_length] at ho
          have hsem := (ho.congr fun z => (Mat.of5 h5).symm).eq
          refine wC_seq ?_
          refine wC_seq ?_
          refine wC_reg ?_
          refine wS_set rfl rfl rfl (a_move rfl rfl) ?_
          refine wS_set rfl rfl rfl (a_fieldAddrA rfl (hT rfl) rfl rfl (hT rfl) rfl) ?_
          refine wS_set rfl rfl rfl (a_loadKids (by assumption) rfl rfl (hT rfl) rfl) ?_
          refine wS_set rfl rfl rfl (a_lenK rfl rfl (hT rfl) rfl) ?_
          refine wS_set rfl rfl rfl (b_lss (p := false) rfl rfl (decide_eq_false (by omega))) ?_
          refine wO_nil ?_
          refine wC_cond (p := false) rfl (fun hc => absurd hc (by decide)) (fun _ => ?_)
          refine wC_exit ?_
          exact ⟨_, slx_own rfl hn7 (congrArg (fun l => Ob.row 1 true 1 (rowP l)) hsem), (fun z es h => by cases h), pinned_mk rfl ⟨rfl, trivial⟩ trivial⟩
      by_cases h6 : r.k = 6
      · cases hrl : r.l with
        | nil => exact absurd hrl (hg.star h6)
        | cons x l0 =>
          have hget : r.l[0]? = some x := by rw [hrl]; rfl
          have hmem : x ∈ r.l := by rw [hrl]; exact List.mem_cons_self
          have hgx := hg.kids x hmem
          have hwx := hgx.wf
          refine wC_seq ?_
          refine wC_reg ?_
          refine wS_set rfl rfl rfl (i_eql (p := false) rfl rfl (decide_eq_false (by omega))) ?_
          refine wS_set rfl rfl rfl (a_assign rfl rfl) ?_
          refine wO_nil ?_
          refine wC_cond (p := false) rfl (fun hc => absurd hc (by decide)) (fun _ => ?_)
          refine wC_seq ?_
          refine wC_reg ?_
          refine wS_set rfl rfl rfl (i_eql (p := false) rfl rfl (decide_eq_false (by omega))) ?_
          refine wS_set rfl rfl rfl (a_assign rfl rfl) ?_
          refine wO_nil ?_
          refine wC_cond (p := false) rfl (fun hc => absurd hc (by decide)) (fun _ => ?_)
          refine wC_seq ?_
          refine wC_reg ?_
          refine wS_set rfl rfl rfl (i_eql (p := false) rfl rfl (decide_eq_false (by omega))) ?_
          refine wS_set rfl rfl rfl (a_assign rfl rfl) ?_
          refine wO_nil ?_
          refine wC_cond (p := false) rfl (fun hc => absurd hc (by decide)) (fun _ => ?_)
          refine wC_seq ?_
          refine wC_reg ?_
          refine wS_set rfl rfl rfl (i_eql (p := false) rfl rfl (decide_eq_false (by omega))) ?_
          refine wS_set rfl rfl rfl (a_assign rfl rfl) ?_
          refine wO_nil ?_
          refine wC_cond (p := false) rfl (fun hc => absurd hc (by decide)) (fun _ => ?_)
          refine wC_seq ?_
          refine wC_reg ?_
          refine wS_set rfl rfl rfl (i_eql (p := true) rfl rfl (decide_eq_true (by omega))) ?_
          refine wS_set rfl rfl rfl (a_assign rfl rfl) ?_
          refine wO_nil ?_
          refine wC_cond (p := true) rfl (fun _ => ?_) (fun hc => absurd hc (by decide))
          refine wC_seq ?_
          refine wC_reg ?_
          refine wS_set rfl rfl rfl (a_move rfl rfl) ?_
          refine wS_set rfl rfl rfl (a_moveS (hS' _) (hT rfl) rfl (hT rfl) rfl) ?_
          refine wS_copyS (n := s.size + 1) rfl rfl (by simp) (hS' _) (by omega) rfl (hT rfl) rfl (hT rfl) rfl rfl rfl (fun v112 rd112 wr112 => ?_)
          refine wO_nil ?_
          refine wC_seq ?_
          refine wC_reg ?_
          refine wS_set rfl rfl rfl (a_assign rfl rfl) ?_
          refine wO_nil ?_
          refine wC_block ?_
          refine wC_loop (fun m ρ => ∃ (o : List Bool) (p : Bool), m = (if p = true then falses o + 1 else 0) ∧ Mid r (bl s) fr o ∧ (p = false → ∀ j, j ≤ (bl s).length → (semOut (Mat x) (bl s) o).getD j false = true → o.getD j false = true) ∧
              PinSt 155 [(1, .v (strV s)), (3, .addr 3 1 0), (7, .own 19 1 0 (s.size + 1)), (13, .v (boolV p))] [(3, .box 1 (rxB r)), (19, .row 1 true 1 (rowP o))] ρ) (fun m ρ hi => ?_) (falses fr + 1)
            ⟨fr, true, by rw [if_pos rfl], mid_0 h6 hrl (by omega), (fun h => by cases h), pinned_mk rfl ⟨rfl, rfl, rfl, rfl, trivial⟩ ⟨rfl, rfl, trivial⟩⟩
          obtain ⟨o, p, hm, ho, hp, hi⟩ := hi
          replace hi := hi.form
          obtain ⟨g, h, rfl⟩ := hi
          have hol := ho.1
          have e3 := rowP_len o
          cases p with
          | true =>
            rw [if_pos rfl] at hm
            have hn3 : (rowP o).length = s.size + 1 := by rw [e3, hol, hbl]
            refine wC_seq ?_
            refine wC_seq ?_
            refine wC_reg ?_
            refine wS_set rfl rfl rfl (a_move rfl rfl) ?_
            refine wO_nil ?_
            refine wC_cond (p := true) rfl (fun _ => ?_) (fun hc => absurd hc (by decide))
            refine wC_skip ?_
            refine wC_block ?_
            refine wC_seq ?_
            refine wC_reg ?_
            refine wS_set rfl rfl rfl (a_assign rfl rfl) ?_
            refine wO_nil ?_
            refine wC_seq ?_
            refine wC_reg ?_
            refine wS_set rfl rfl rfl (a_fieldAddrA rfl (hT rfl) rfl rfl (hT rfl) rfl) ?_
            refine wS_set rfl rfl rfl (a_loadKids (by assumption) rfl rfl (hT rfl) rfl) ?_
            refine wS_set rfl rfl rfl (n_indexAddrV (a := 0) rfl rfl (hT rfl) rfl (hT rfl) rfl (rxRows_get hget)) ?_
            refine wS_set rfl rfl rfl (a_loadRxR (by assumption) rfl (hT rfl) rfl rfl) ?_
            refine wS_set rfl rfl rfl (a_move rfl rfl) ?_
            refine wS_set rfl rfl rfl (a_moveS (slx_own rfl hn3 rfl) (hT rfl) rfl (hT rfl) rfl) ?_
            refine wS_callS3 (es := rowP o) (s0 := 19) (slx_own rfl hn3 rfl) rfl rfl rfl fn43 rfl (fun y2 hy2 => ih x hmem hgx s o y2 hs (by omega) hy2) rfl rfl rfl rfl rfl (fun rd120 => ?_)
            refine wS_set rfl rfl rfl (a_assign rfl rfl) ?_
            refine wO_nil ?_
            refine wC_seq ?_
            refine wC_reg ?_
            refine wS_set rfl rfl rfl (a_assign rfl rfl) ?_
            refine wO_nil ?_
            refine wC_block ?_
            have hno := sem_out (Mat x) (bl s) o
            have hnl := hno.1
            have hms := mid_step (o' := o) h6 hrl ho hol
            have hmst : ∀ o', o'.length = (bl s).length + 1 → (∀ j, j ≤ (bl s).length → o'.getD j false = (o.getD j false || (semOut (Mat x) (bl s) o).getD j false)) → Mid r (bl s) fr o' := fun o' h1 h2 => mid_step h6 hrl ho h1 h2
            have hpn : (¬ ∃ j, j < o.length ∧ (semOut (Mat x) (bl s) o).getD j false = true ∧ o.getD j false = false) → ∀ j, j ≤ (bl s).length → (semOut (Mat x) (bl s) o).getD j false = true → o.getD j false = true := by
              intro hne j hj hx
              cases hoj : o.getD j false with
              | true => rfl
              | false => exact absurd ⟨j, by omega, hx, hoj⟩ hne
            generalize hnx : semOut (Mat x) (bl s) o = nx at hno hnl hms hmst hpn
            have en := rowP_len nx
            refine wC_loop (fun m2 ρ => ∃ (l : Nat) (o2 : List Bool) (q : Bool), l + m2 = s.size + 1 ∧ OrTo o nx o2 l ∧ (q = true ↔ ∃ j, j < l ∧ nx.getD j false = true ∧ o.getD j false = false) ∧
                PinSt 155 [(1, .v (strV s)), (3, .addr 3 1 0), (7, .own 19 1 0 (s.size + 1)), (13, .v (boolV q)), (14, .v (.sl 1 (rowP nx))), (15, natX .i64 l)] [(3, .box 1 (rxB r)), (19, .row 1 true 1 (rowP o2))] ρ) (fun m2 ρ hi => ?_) (s.size + 1)
              ⟨0, o, false, by omega, orTo_0 _ _, ⟨(fun h => by cases h), (fun ⟨j, hj, _⟩ => absurd hj (Nat.not_lt_zero _))⟩, pinned_mk rfl ⟨rfl, rfl, rfl, rfl, rfl, rfl, trivial⟩ ⟨rfl, rfl, trivial⟩⟩
            obtain ⟨l, o2, q, hm2, ho2, hq, hi⟩ := hi
            replace hi := hi.form
            clear h
            obtain ⟨g, h, rfl⟩ := hi
            have hol2 := ho2.1
            have e4 := rowP_len o2
            by_cases hlt2 : l < s.size + 1
            · have hl0 : o2.getD l false = o.getD l false := by rw [ho2.2 l, if_neg (Nat.lt_irrefl _)]
              have hq' := more_step (q := q) (l := l) hq
              cases q with
              | true =>
                cases hb : nx.getD l false with
                | true =>
                  cases ha : o2.getD l false with
                  | true =>
                    rw [← hl0, ha, hb] at hq'
                    refine wC_seq ?_
                    refine wC_seq ?_
                    refine wC_reg ?_
                    refine wS_set rfl rfl rfl (a_move rfl rfl) ?_
                    refine wS_set rfl rfl rfl (a_move rfl rfl) ?_
                    refine wS_set rfl rfl rfl (a_lenV rfl rfl (hT rfl) rfl) ?_
                    refine wS_set rfl rfl rfl (b_lss (p := true) rfl rfl (decide_eq_true (by omega))) ?_
                    refine wO_nil ?_
                    refine wC_cond (p := true) rfl (fun _ => ?_) (fun hc => absurd hc (by decide))
                    refine wC_skip ?_
                    refine wC_seq ?_
                    refine wC_block ?_
                    refine wC_seq ?_
                    refine wC_reg ?_
                    refine wS_set rfl rfl rfl (a_move rfl rfl) ?_
                    refine wS_set rfl rfl rfl (a_move rfl rfl) ?_
                    refine wS_skip rfl rfl rfl ?_
                    refine wS_skip rfl rfl rfl ?_
                    refine wS_skip rfl rfl rfl ?_
                    refine wS_skip rfl rfl rfl ?_
                    refine wS_skip rfl rfl rfl ?_
                    refine wS_skip rfl rfl rfl ?_
                    refine wS_skip rfl rfl rfl ?_
                    refine wS_skip rfl rfl rfl ?_
                    refine wS_skip rfl rfl rfl ?_
                    refine wS_skip rfl rfl rfl ?_
                    refine wS_skip rfl rfl rfl ?_
                    refine wS_set rfl rfl rfl (a_pickT rfl rfl) ?_
                    refine wS_set rfl rfl rfl (a_assign rfl rfl) ?_
                    refine wO_nil ?_
                    refine wC_reg ?_
                    refine wS_set rfl rfl rfl (a_move rfl rfl) ?_
                    refine wS_set rfl rfl rfl (a_move rfl rfl) ?_
                    refine wS_set rfl rfl rfl (a_move rfl rfl) ?_
                    refine wS_set rfl rfl rfl (a_move rfl rfl) ?_
                    refine wS_set rfl rfl rfl (n_indexAddrP rfl rfl rfl (hT rfl) rfl (hT rfl) rfl (by omega)) ?_
                    refine wS_set rfl rfl rfl (a_loadE1 rfl rfl (rowP_is (by omega) ha) (hT rfl) rfl rfl) ?_
                    refine wS_set rfl rfl rfl (a_move rfl rfl) ?_
                    refine wS_skip rfl rfl rfl ?_
                    refine wS_skip rfl rfl rfl ?_
                    refine wS_skip rfl rfl rfl ?_
                    refine wS_skip rfl rfl rfl ?_
                    refine wS_set rfl rfl rfl (a_pickT rfl rfl) ?_
                    refine wS_set rfl rfl rfl (n_indexAddrP rfl rfl rfl (hT rfl) rfl (hT rfl) rfl (by omega)) ?_
                    refine wS_eff rfl rfl (a_storeI rfl rfl rfl rfl ⟨_, rowP_at (by omega)⟩ (hT rfl) rfl rfl) ?_
                    refine wO_nil ?_
                    refine wC_reg ?_
                    refine wS_set rfl rfl rfl (a_move rfl rfl) ?_
                    refine wS_set rfl rfl rfl (n_add (b := 1) rfl rfl (by simp only [capN]; omega)) ?_
                    refine wS_set rfl rfl rfl (a_assign rfl rfl) ?_
                    refine wO_nil ?_
                    exact ⟨m2 - 1, by omega, l + 1, _, true, by omega, orTo_step (p := true) ho2 (by omega) (by rw [ha, hb]; rfl), hq', pinned_mk rfl ⟨rfl, rfl, rfl, rfl, rfl, rfl, trivial⟩ ⟨rfl, congrArg (Ob.row 1 true 1) (rowP_set _ _ _), trivial⟩⟩
                  | false =>
                    rw [← hl0, ha, hb] at hq'
                    refine wC_seq ?_
                    refine wC_seq ?_
                    refine wC_reg ?_
                    refine wS_set rfl rfl rfl (a_move rfl rfl) ?_
                    refine wS_set rfl rfl rfl (a_move rfl rfl) ?_
                    refine wS_set rfl rfl rfl (a_lenV rfl rfl (hT rfl) rfl) ?_
                    refine wS_set rfl rfl rfl (b_lss (p := true) rfl rfl (decide_eq_true (by omega))) ?_
                    refine wO_nil ?_
                    refine wC_cond (p := true) rfl (fun _ => ?_) (fun hc => absurd hc (by decide))
                    refine wC_skip ?_
                    refine wC_seq ?_
                    refine wC_block ?_
                    refine wC_seq ?_
                    refine wC_reg ?_
                    refine wS_set rfl rfl rfl (a_move rfl rfl) ?_
                    refine wS_set rfl rfl rfl (a_move rfl rfl) ?_
                    refine wS_skip rfl rfl rfl ?_
                    refine wS_skip rfl rfl rfl ?_
                    refine wS_skip rfl rfl rfl ?_
                    refine wS_skip rfl rfl rfl ?_
                    refine wS_skip rfl rfl rfl ?_
                    refine wS_skip rfl rfl rfl ?_
                    refine wS_skip rfl rfl rfl ?_
                    refine wS_skip rfl rfl rfl ?_
                    refine wS_skip rfl rfl rfl ?_
                    refine wS_skip rfl rfl rfl ?_
                    refine wS_skip rfl rfl rfl ?_
                    refine wS_set rfl rfl rfl (a_pickT rfl rfl) ?_
                    refine wS_set rfl rfl rfl (a_assign rfl rfl) ?_
                    refine wO_nil ?_
                    refine wC_reg ?_
                    refine wS_set rfl rfl rfl (a_move rfl rfl) ?_
                    refine wS_set rfl rfl rfl (a_move rfl rfl) ?_
                    refine wS_set rfl rfl rfl (a_move rfl rfl) ?_
                    refine wS_set rfl rfl rfl (a_move rfl rfl) ?_
                    refine wS_set rfl rfl rfl (n_indexAddrP rfl rfl rfl (hT rfl) rfl (hT rfl) rfl (by omega)) ?_
                    refine wS_set rfl rfl rfl (a_loadE1 rfl rfl (rowP_is (by omega) ha) (hT rfl) rfl rfl) ?_
                    refine wS_set rfl rfl rfl (a_move rfl rfl) ?_
                    refine wS_set rfl rfl rfl (a_move rfl rfl) ?_
                    refine wS_set rfl rfl rfl (a_move rfl rfl) ?_
                    refine wS_set rfl rfl rfl (n_indexAddrV (a := l) rfl rfl (hT rfl) rfl (hT rfl) rfl (rowP_is (by omega) hb)) ?_
                    refine wS_set rfl rfl rfl (a_loadR1 rfl (hT rfl) rfl rfl) ?_
                    refine wS_set rfl rfl rfl (a_pickF rfl rfl) ?_
                    refine wS_set rfl rfl rfl (n_indexAddrP rfl rfl rfl (hT rfl) rfl (hT rfl) rfl (by omega)) ?_
                    refine wS_eff rfl rfl (a_storeI rfl rfl rfl rfl ⟨_, rowP_at (by omega)⟩ (hT rfl) rfl rfl) ?_
                    refine wO_nil ?_
                    refine wC_reg ?_
                    refine wS_set rfl rfl rfl (a_move rfl rfl) ?_
                    refine wS_set rfl rfl rfl (n_add (b := 1) rfl rfl (by simp only [capN]; omega)) ?_
                    refine wS_set rfl rfl rfl (a_assign rfl rfl) ?_
                    refine wO_nil ?_
                    exact ⟨m2 - 1, by omega, l + 1, _, true, by omega, orTo_step (p := true) ho2 (by omega) (by rw [ha, hb]; rfl), hq', pinned_mk rfl ⟨rfl, rfl, rfl, rfl, rfl, rfl, trivial⟩ ⟨rfl, congrArg (Ob.row 1 true 1) (rowP_set _ _ _), trivial⟩⟩
                | false =>
                  cases ha : o2.getD l false with
                  | true =>
                    rw [← hl0, ha, hb] at hq'
                    refine wC_seq ?_
                    refine wC_seq ?_
                    refine wC_reg ?_
                    refine wS_set rfl rfl rfl (a_move rfl rfl) ?_
                    refine wS_set rfl rfl rfl (a_move rfl rfl) ?_
                    refine wS_set rfl rfl rfl (a_lenV rfl rfl (hT rfl) rfl) ?_
                    refine wS_set rfl rfl rfl (b_lss (p := true) rfl rfl (decide_eq_true (by omega))) ?_
                    refine wO_nil ?_
                    refine wC_cond (p := true) rfl (fun _ => ?_) (fun hc => absurd hc (by decide))
                    refine wC_skip ?_
                    refine wC_seq ?_
                    refine wC_block ?_
                    refine wC_seq ?_
                    refine wC_reg ?_
                    refine wS_set rfl rfl rfl (a_move rfl rfl) ?_
                    refine wS_set rfl rfl rfl (a_move rfl rfl) ?_
                    refine wS_skip rfl rfl rfl ?_
                    refine wS_skip rfl rfl rfl ?_
                    refine wS_skip rfl rfl rfl ?_
                    refine wS_skip rfl rfl rfl ?_
                    refine wS_skip rfl rfl rfl ?_
                    refine wS_skip rfl rfl rfl ?_
                    refine wS_skip rfl rfl rfl ?_
                    refine wS_skip rfl rfl rfl ?_
                    refine wS_skip rfl rfl rfl ?_
                    refine wS_skip rfl rfl rfl ?_
                    refine wS_skip rfl rfl rfl ?_
                    refine wS_set rfl rfl rfl (a_pickT rfl rfl) ?_
                    refine wS_set rfl rfl rfl (a_assign rfl rfl) ?_
                    refine wO_nil ?_
                    refine wC_reg ?_
                    refine wS_set rfl rfl rfl (a_move rfl rfl) ?_
                    refine wS_set rfl rfl rfl (a_move rfl rfl) ?_
                    refine wS_set rfl rfl rfl (a_move rfl rfl) ?_
                    refine wS_set rfl rfl rfl (a_move rfl rfl) ?_
                    refine wS_set rfl rfl rfl (n_indexAddrP rfl rfl rfl (hT rfl) rfl (hT rfl) rfl (by omega)) ?_
                    refine wS_set rfl rfl rfl (a_loadE1 rfl rfl (rowP_is (by omega) ha) (hT rfl) rfl rfl) ?_
                    refine wS_set rfl rfl rfl (a_move rfl rfl) ?_
                    refine wS_skip rfl rfl rfl ?_
                    refine wS_skip rfl rfl rfl ?_
                    refine wS_skip rfl rfl rfl ?_
                    refine wS_skip rfl rfl rfl ?_
                    refine wS_set rfl rfl rfl (a_pickT rfl rfl) ?_
                    refine wS_set rfl rfl rfl (n_indexAddrP rfl rfl rfl (hT rfl) rfl (hT rfl) rfl (by omega)) ?_
                    refine wS_eff rfl rfl (a_storeI rfl rfl rfl rfl ⟨_, rowP_at (by omega)⟩ (hT rfl) rfl rfl) ?_
                    refine wO_nil ?_
                    refine wC_reg ?_
                    refine wS_set rfl rfl rfl (a_move rfl rfl) ?_
                    refine wS_set rfl rfl rfl (n_add (b := 1) rfl rfl (by simp only [capN]; omega)) ?_
                    refine wS_set rfl rfl rfl (a_assign rfl rfl) ?_
                    refine wO_nil ?_
                    exact ⟨m2 - 1, by omega, l + 1, _, true, by omega, orTo_step (p := true) ho2 (by omega) (by rw [ha, hb]; rfl), hq', pinned_mk rfl ⟨rfl, rfl, rfl, rfl, rfl, rfl, trivial⟩ ⟨rfl, congrArg (Ob.row 1 true 1) (rowP_set _ _ _), trivial⟩⟩
                  | false =>
                    rw [← hl0, ha, hb] at hq'
                    refine wC_seq ?_
                    refine wC_seq ?_
                    refine wC_reg ?_
                    refine wS_set rfl rfl rfl (a_move rfl rfl) ?_
                    refine wS_set rfl rfl rfl (a_move rfl rfl) ?_
                    refine wS_set rfl rfl rfl (a_lenV rfl rfl (hT rfl) rfl) ?_
                    refine wS_set rfl rfl rfl (b_lss (p := true) rfl rfl (decide_eq_true (by omega))) ?_
                    refine wO_nil ?_
                    refine wC_cond (p := true) rfl (fun _ => ?_) (fun hc => absurd hc (by decide))
                    refine wC_skip ?_
                    refine wC_seq ?_
                    refine wC_block ?_
                    refine wC_seq ?_
                    refine wC_reg ?_
                    refine wS_set rfl rfl rfl (a_move rfl rfl) ?_
                    refine wS_set rfl rfl rfl (a_move rfl rfl) ?_
                    refine wS_skip rfl rfl rfl ?_
                    refine wS_skip rfl rfl rfl ?_
                    refine wS_skip rfl rfl rfl ?_
                    refine wS_skip rfl rfl rfl ?_
                    refine wS_skip rfl rfl rfl ?_
                    refine wS_skip rfl rfl rfl ?_
                    refine wS_skip rfl rfl rfl ?_
                    refine wS_skip rfl rfl rfl ?_
                    refine wS_skip rfl rfl rfl ?_
                    refine wS_skip rfl rfl rfl ?_
                    refine wS_skip rfl rfl rfl ?_
                    refine wS_set rfl rfl rfl (a_pickT rfl rfl) ?_
                    refine wS_set rfl rfl rfl (a_assign rfl rfl) ?_
                    refine wO_nil ?_
                    refine wC_reg ?_
                    refine wS_set rfl rfl rfl (a_move rfl rfl) ?_
                    refine wS_set rfl rfl rfl (a_move rfl rfl) ?_
                    refine wS_set rfl rfl rfl (a_move rfl rfl) ?_
                    refine wS_set rfl rfl rfl (a_move rfl rfl) ?_
                    refine wS_set rfl rfl rfl (n_indexAddrP rfl rfl rfl (hT rfl) rfl (hT rfl) rfl (by omega)) ?_
                    refine wS_set rfl rfl rfl (a_loadE1 rfl rfl (rowP_is (by omega) ha) (hT rfl) rfl rfl) ?_
                    refine wS_set rfl rfl rfl (a_move rfl rfl) ?_
                    refine wS_set rfl rfl rfl (a_move rfl rfl) ?_
                    refine wS_set rfl rfl rfl (a_move rfl rfl) ?_
                    refine wS_set rfl rfl rfl (n_indexAddrV (a := l) rfl rfl (hT rfl) rfl (hT rfl) rfl (rowP_is (by omega) hb)) ?_
                    refine wS_set rfl rfl rfl (a_loadR1 rfl (hT rfl) rfl rfl) ?_
                    refine wS_set rfl rfl rfl (a_pickF rfl rfl) ?_
                    refine wS_set rfl rfl rfl (n_indexAddrP rfl rfl rfl (hT rfl) rfl (hT rfl) rfl (by omega)) ?_
                    refine wS_eff rfl rfl (a_storeI rfl rfl rfl rfl ⟨_, rowP_at (by omega)⟩ (hT rfl) rfl rfl) ?_
                    refine wO_nil ?_
                    refine wC_reg ?_
                    refine wS_set rfl rfl rfl (a_move rfl rfl) ?_
                    refine wS_set rfl rfl rfl (n_add (b := 1) rfl rfl (by simp only [capN]; omega)) ?_
                    refine wS_set rfl rfl rfl (a_assign rfl rfl) ?_
                    refine wO_nil ?_
                    exact ⟨m2 - 1, by omega, l + 1, _, true, by omega, orTo_step (p := false) ho2 (by omega) (by rw [ha, hb]; rfl), hq', pinned_mk rfl ⟨rfl, rfl, rfl, rfl, rfl, rfl, trivial⟩ ⟨rfl, congrArg (Ob.row 1 true 1) (rowP_set _ _ _), trivial⟩⟩
              | false =>
                cases hb : nx.getD l false with
                | true =>
                  cases ha : o2.getD l false with
                  | true =>
                    rw [← hl0, ha, hb] at hq'
                    refine wC_seq ?_
                    refine wC_seq ?_
                    refine wC_reg ?_
                    refine wS_set rfl rfl rfl (a_move rfl rfl) ?_
                    refine wS_set rfl rfl rfl (a_move rfl rfl) ?_
                    refine wS_set rfl rfl rfl (a_lenV rfl rfl (hT rfl) rfl) ?_
                    refine wS_set rfl rfl rfl (b_lss (p := true) rfl rfl (decide_eq_true (by omega))) ?_
                    refine wO_nil ?_
                    refine wC_cond (p := true) rfl (fun _ => ?_) (fun hc => absurd hc (by decide))
                    refine wC_skip ?_
                    refine wC_seq ?_
                    refine wC_block ?_
                    refine wC_seq ?_
                    refine wC_reg ?_
                    refine wS_set rfl rfl rfl (a_move rfl rfl) ?_
                    refine wS_set rfl rfl rfl (a_move rfl rfl) ?_
                    refine wS_set rfl rfl rfl (a_move rfl rfl) ?_
                    refine wS_set rfl rfl rfl (a_move rfl rfl) ?_
                    refine wS_set rfl rfl rfl (n_indexAddrV (a := l) rfl rfl (hT rfl) rfl (hT rfl) rfl (rowP_is (by omega) hb)) ?_
                    refine wS_set rfl rfl rfl (a_loadR1 rfl (hT rfl) rfl rfl) ?_
                    refine wS_set rfl rfl rfl (a_move rfl rfl) ?_
                    refine wS_set rfl rfl rfl (a_move rfl rfl) ?_
                    refine wS_set rfl rfl rfl (a_move rfl rfl) ?_
                    refine wS_set rfl rfl rfl (n_indexAddrP rfl rfl rfl (hT rfl) rfl (hT rfl) rfl (by omega)) ?_
                    refine wS_set rfl rfl rfl (a_loadE1 rfl rfl (rowP_is (by omega) ha) (hT rfl) rfl rfl) ?_
                    refine wS_set rfl rfl rfl (a_un rfl rfl) ?_
                    refine wS_set rfl rfl rfl (a_pickT rfl rfl) ?_
                    refine wS_set rfl rfl rfl (a_pickF rfl rfl) ?_
                    refine wS_set rfl rfl rfl (a_assign rfl rfl) ?_
                    refine wO_nil ?_
                    refine wC_reg ?_
                    refine wS_set rfl rfl rfl (a_move rfl rfl) ?_
                    refine wS_set rfl rfl rfl (a_move rfl rfl) ?_
                    refine wS_set rfl rfl rfl (a_move rfl rfl) ?_
                    refine wS_set rfl rfl rfl (a_move rfl rfl) ?_
                    refine wS_set rfl rfl rfl (n_indexAddrP rfl rfl rfl (hT rfl) rfl (hT rfl) rfl (by omega)) ?_
                    refine wS_set rfl rfl rfl (a_loadE1 rfl rfl (rowP_is (by omega) ha) (hT rfl) rfl rfl) ?_
                    refine wS_set rfl rfl rfl (a_move rfl rfl) ?_
                    refine wS_skip rfl rfl rfl ?_
                    refine wS_skip rfl rfl rfl ?_
                    refine wS_skip rfl rfl rfl ?_
                    refine wS_skip rfl rfl rfl ?_
                    refine wS_set rfl rfl rfl (a_pickT rfl rfl) ?_
                    refine wS_set rfl rfl rfl (n_indexAddrP rfl rfl rfl (hT rfl) rfl (hT rfl) rfl (by omega)) ?_
                    refine wS_eff rfl rfl (a_storeI rfl rfl rfl rfl ⟨_, rowP_at (by omega)⟩ (hT rfl) rfl rfl) ?_
                    refine wO_nil ?_
                    refine wC_reg ?_
                    refine wS_set rfl rfl rfl (a_move rfl rfl) ?_
                    refine wS_set rfl rfl rfl (n_add (b := 1) rfl rfl (by simp only [capN]; omega)) ?_
                    refine wS_set rfl rfl rfl (a_assign rfl rfl) ?_
                    refine wO_nil ?_
                    exact ⟨m2 - 1, by omega, l + 1, _, false, by omega, orTo_step (p := true) ho2 (by omega) (by rw [ha, hb]; rfl), hq', pinned_mk rfl ⟨rfl, rfl, rfl, rfl, rfl, rfl, trivial⟩ ⟨rfl, congrArg (Ob.row 1 true 1) (rowP_set _ _ _), trivial⟩⟩
                  | false =>
                    rw [← hl0, ha, hb] at hq'
                    refine wC_seq ?_
                    refine wC_seq ?_
                    refine wC_reg ?_
                    refine wS_set rfl rfl rfl (a_move rfl rfl) ?_
                    refine wS_set rfl rfl rfl (a_move rfl rfl) ?_
                    refine wS_set rfl rfl rfl (a_lenV rfl rfl (hT rfl) rfl) ?_
                    refine wS_set rfl rfl rfl (b_lss (p := true) rfl rfl (decide_eq_true (by omega))) ?_
                    refine wO_nil ?_
                    refine wC_cond (p := true) rfl (fun _ => ?_) (fun hc => absurd hc (by decide))
                    refine wC_skip ?_
                    refine wC_seq ?_
                    refine wC_block ?_
                    refine wC_seq ?_
                    refine wC_reg ?_
                    refine wS_set rfl rfl rfl (a_move rfl rfl) ?_
                    refine wS_set rfl rfl rfl (a_move rfl rfl) ?_
                    refine wS_set rfl rfl rfl (a_move rfl rfl) ?_
                    refine wS_set rfl rfl rfl (a_move rfl rfl) ?_
                    refine wS_set rfl rfl rfl (n_indexAddrV (a := l) rfl rfl (hT rfl) rfl (hT rfl) rfl (rowP_is (by omega) hb)) ?_
                    refine wS_set rfl rfl rfl (a_loadR1 rfl (hT rfl) rfl rfl) ?_
                    refine wS_set rfl rfl rfl (a_move rfl rfl) ?_
                    refine wS_set rfl rfl rfl (a_move rfl rfl) ?_
                    refine wS_set rfl rfl rfl (a_move rfl rfl) ?_
                    refine wS_set rfl rfl rfl (n_indexAddrP rfl rfl rfl (hT rfl) rfl (hT rfl) rfl (by omega)) ?_
                    refine wS_set rfl rfl rfl (a_loadE1 rfl rfl (rowP_is (by omega) ha) (hT rfl) rfl rfl) ?_
                    refine wS_set rfl rfl rfl (a_un rfl rfl) ?_
                    refine wS_set rfl rfl rfl (a_pickT rfl rfl) ?_
                    refine wS_set rfl rfl rfl (a_pickF rfl rfl) ?_
                    refine wS_set rfl rfl rfl (a_assign rfl rfl) ?_
                    refine wO_nil ?_
                    refine wC_reg ?_
                    refine wS_set rfl rfl rfl (a_move rfl rfl) ?_
                    refine wS_set rfl rfl rfl (a_move rfl rfl) ?_
                    refine wS_set rfl rfl rfl (a_move rfl rfl) ?_
                    refine wS_set rfl rfl rfl (a_move rfl rfl) ?_
                    refine wS_set rfl rfl rfl (n_indexAddrP rfl rfl rfl (hT rfl) rfl (hT rfl) rfl (by omega)) ?_
                    refine wS_set rfl rfl rfl (a_loadE1 rfl rfl (rowP_is (by omega) ha) (hT rfl) rfl rfl) ?_
                    refine wS_set rfl rfl rfl (a_move rfl rfl) ?_
                    refine wS_set rfl rfl rfl (a_move rfl rfl) ?_
                    refine wS_set rfl rfl rfl (a_move rfl rfl) ?_
                    refine wS_set rfl rfl rfl (n_indexAddrV (a := l) rfl rfl (hT rfl) rfl (hT rfl) rfl (rowP_is (by omega) hb)) ?_
                    refine wS_set rfl rfl rfl (a_loadR1 rfl (hT rfl) rfl rfl) ?_
                    refine wS_set rfl rfl rfl (a_pickF rfl rfl) ?_
                    refine wS_set rfl rfl rfl (n_indexAddrP rfl rfl rfl (hT rfl) rfl (hT rfl) rfl (by omega)) ?_
                    refine wS_eff rfl rfl (a_storeI rfl rfl rfl rfl ⟨_, rowP_at (by omega)⟩ (hT rfl) rfl rfl) ?_
                    refine wO_nil ?_
                    refine wC_reg ?_
                    refine wS_set rfl rfl rfl (a_move rfl rfl) ?_
                    refine wS_set rfl rfl rfl (n_add (b := 1) rfl rfl (by simp only [capN]; omega)) ?_
                    refine wS_set rfl rfl rfl (a_assign rfl rfl) ?_
                    refine wO_nil ?_
                    exact ⟨m2 - 1, by omega, l + 1, _, true, by omega, orTo_step (p := true) ho2 (by omega) (by rw [ha, hb]; rfl), hq', pinned_mk rfl ⟨rfl, rfl, rfl, rfl, rfl, rfl, trivial⟩ ⟨rfl, congrArg (Ob.row 1 true 1) (rowP_set _ _ _), trivial⟩⟩
                | false =>
                  cases ha : o2.getD l false with
                  | true =>
                    rw [← hl0, ha, hb] at hq'
                    refine wC_seq ?_
                    refine wC_seq ?_
                    refine wC_reg ?_
                    refine wS_set rfl rfl rfl (a_move rfl rfl) ?_
                    refine wS_set rfl rfl rfl (a_move rfl rfl) ?_
                    refine wS_set rfl rfl rfl (a_lenV rfl rfl (hT rfl) rfl) ?_
                    refine wS_set rfl rfl rfl (b_lss (p := true) rfl rfl (decide_eq_true (by omega))) ?_
                    refine wO_nil ?_
                    refine wC_cond (p := true) rfl (fun _ => ?_) (fun hc => absurd hc (by decide))
                    refine wC_skip ?_
                    refine wC_seq ?_
                    refine wC_block ?_
                    refine wC_seq ?_
                    refine wC_reg ?_
                    refine wS_set rfl rfl rfl (a_move rfl rfl) ?_
                    refine wS_set rfl rfl rfl (a_move rfl rfl) ?_
                    refine wS_set rfl rfl rfl (a_move rfl rfl) ?_
                    refine wS_set rfl rfl rfl (a_move rfl rfl) ?_
                    refine wS_set rfl rfl rfl (n_indexAddrV (a := l) rfl rfl (hT rfl) rfl (hT rfl) rfl (rowP_is (by omega) hb)) ?_
                    refine wS_set rfl rfl rfl (a_loadR1 rfl (hT rfl) rfl rfl) ?_
                    refine wS_set rfl rfl rfl (a_move rfl rfl) ?_
                    refine wS_skip rfl rfl rfl ?_
                    refine wS_skip rfl rfl rfl ?_
                    refine wS_skip rfl rfl rfl ?_
                    refine wS_skip rfl rfl rfl ?_
                    refine wS_skip rfl rfl rfl ?_
                    refine wS_set rfl rfl rfl (a_pickF rfl rfl) ?_
                    refine wS_set rfl rfl rfl (a_pickF rfl rfl) ?_
                    refine wS_set rfl rfl rfl (a_assign rfl rfl) ?_
                    refine wO_nil ?_
                    refine wC_reg ?_
                    refine wS_set rfl rfl rfl (a_move rfl rfl) ?_
                    refine wS_set rfl rfl rfl (a_move rfl rfl) ?_
                    refine wS_set rfl rfl rfl (a_move rfl rfl) ?_
                    refine wS_set rfl rfl rfl (a_move rfl rfl) ?_
                    refine wS_set rfl rfl rfl (n_indexAddrP rfl rfl rfl (hT rfl) rfl (hT rfl) rfl (by omega)) ?_
                    refine wS_set rfl rfl rfl (a_loadE1 rfl rfl (rowP_is (by omega) ha) (hT rfl) rfl rfl) ?_
                    refine wS_set rfl rfl rfl (a_move rfl rfl) ?_
                    refine wS_skip rfl rfl rfl ?_
                    refine wS_skip rfl rfl rfl ?_
                    refine wS_skip rfl rfl rfl ?_
                    refine wS_skip rfl rfl rfl ?_
                    refine wS_set rfl rfl rfl (a_pickT rfl rfl) ?_
                    refine wS_set rfl rfl rfl (n_indexAddrP rfl rfl rfl (hT rfl) rfl (hT rfl) rfl (by omega)) ?_
                    refine wS_eff rfl rfl (a_storeI rfl rfl rfl rfl ⟨_, rowP_at (by omega)⟩ (hT rfl) rfl rfl) ?_
                    refine wO_nil ?_
                    refine wC_reg ?_
                    refine wS_set rfl rfl rfl (a_move rfl rfl) ?_
                    refine wS_set rfl rfl rfl (n_add (b := 1) rfl rfl (by simp only [capN]; omega)) ?_
                    refine wS_set rfl rfl rfl (a_assign rfl rfl) ?_
                    refine wO_nil ?_
                    exact ⟨m2 - 1, by omega, l + 1, _, false, by omega, orTo_step (p := true) ho2 (by omega) (by rw [ha, hb]; rfl), hq', pinned_mk rfl ⟨rfl, rfl, rfl, rfl, rfl, rfl, trivial⟩ ⟨rfl, congrArg (Ob.row 1 true 1) (rowP_set _ _ _), trivial⟩⟩
                  | false =>
                    rw [← hl0, ha, hb] at hq'
                    refine wC_seq ?_
                    refine wC_seq ?_
                    refine wC_reg ?_
                    refine wS_set rfl rfl rfl (a_move rfl rfl) ?_
                    refine wS_set rfl rfl rfl (a_move rfl rfl) ?_
                    refine wS_set rfl rfl rfl (a_lenV rfl rfl (hT rfl) rfl) ?_
                    refine wS_set rfl rfl rfl (b_lss (p := true) rfl rfl (decide_eq_true (by omega))) ?_
                    refine wO_nil ?_
                    refine wC_cond (p := true) rfl (fun _ => ?_) (fun hc => absurd hc (by decide))
                    refine wC_skip ?_
                    refine wC_seq ?_
                    refine wC_block ?_
                    refine wC_seq ?_
                    refine wC_reg ?_
                    refine wS_set rfl rfl rfl (a_move rfl rfl) ?_
                    refine wS_set rfl rfl rfl (a_move rfl rfl) ?_
                    refine wS_set rfl rfl rfl (a_move rfl rfl) ?_
                    refine wS_set rfl rfl rfl (a_move rfl rfl) ?_
                    refine wS_set rfl rfl rfl (n_indexAddrV (a := l) rfl rfl (hT rfl) rfl (hT rfl) rfl (rowP_is (by omega) hb)) ?_
                    refine wS_set rfl rfl rfl (a_loadR1 rfl (hT rfl) rfl rfl) ?_
                    refine wS_set rfl rfl rfl (a_move rfl rfl) ?_
                    refine wS_skip rfl rfl rfl ?_
                    refine wS_skip rfl rfl rfl ?_
                    refine wS_skip rfl rfl rfl ?_
                    refine wS_skip rfl rfl rfl ?_
                    refine wS_skip rfl rfl rfl ?_
                    refine wS_set rfl rfl rfl (a_pickF rfl rfl) ?_
                    refine wS_set rfl rfl rfl (a_pickF rfl rfl) ?_
                    refine wS_set rfl rfl rfl (a_assign rfl rfl) ?_
                    refine wO_nil ?_
                    refine wC_reg ?_
                    refine wS_set rfl rfl rfl (a_move rfl rfl) ?_
                    refine wS_set rfl rfl rfl (a_move rfl rfl) ?_
                    refine wS_set rfl rfl rfl (a_move rfl rfl) ?_
                    refine wS_set rfl rfl rfl (a_move rfl rfl) ?_
                    refine wS_set rfl rfl rfl (n_indexAddrP rfl rfl rfl (hT rfl) rfl (hT rfl) rfl (by omega)) ?_
                    refine wS_set rfl rfl rfl (a_loadE1 rfl rfl (rowP_is (by omega) ha) (hT rfl) rfl rfl) ?_
                    refine wS_set rfl rfl rfl (a_move rfl rfl) ?_
                    refine wS_set rfl rfl rfl (a_move rfl rfl) ?_
                    refine wS_set rfl rfl rfl (a_move rfl rfl) ?_
                    refine wS_set rfl rfl rfl (n_indexAddrV (a := l) rfl rfl (hT rfl) rfl (hT rfl) rfl (rowP_is (by omega) hb)) ?_
                    refine wS_set rfl rfl rfl (a_loadR1 rfl (hT rfl) rfl rfl) ?_
                    refine wS_set rfl rfl rfl (a_pickF rfl rfl) ?_
                    refine wS_set rfl rfl rfl (n_indexAddrP rfl rfl rfl (hT rfl) rfl (hT rfl) rfl (by omega)) ?_
                    refine wS_eff rfl rfl (a_storeI rfl rfl rfl rfl ⟨_, rowP_at (by omega)⟩ (hT rfl) rfl rfl) ?_
                    refine wO_nil ?_
                    refine wC_reg ?_
                    refine wS_set rfl rfl rfl (a_move rfl rfl) ?_
                    refine wS_set rfl rfl rfl (n_add (b := 1) rfl rfl (by simp only [capN]; omega)) ?_
                    refine wS_set rfl rfl rfl (a_assign rfl rfl) ?_
                    refine wO_nil ?_
                    exact ⟨m2 - 1, by omega, l + 1, _, false, by omega, orTo_step (p := false) ho2 (by omega) (by rw [ha, hb]; rfl), hq', pinned_mk rfl ⟨rfl, rfl, rfl, rfl, rfl, rfl, trivial⟩ ⟨rfl, congrArg (Ob.row 1 true 1) (rowP_set _ _ _), trivial⟩⟩
            · obtain rfl : l = s.size + 1 := by omega
              refine wC_seq ?_
              refine wC_seq ?_
              refine wC_reg ?_
              refine wS_set rfl rfl rfl (a_move rfl rfl) ?_
              refine wS_set rfl rfl rfl (a_move rfl rfl) ?_
              refine wS_set rfl rfl rfl (a_lenV rfl rfl (hT rfl) rfl) ?_
              refine wS_set rfl rfl rfl (b_lss (p := false) rfl rfl (decide_eq_false (by omega))) ?_
              refine wO_nil ?_
              refine wC_cond (p := false) rfl (fun hc => absurd hc (by decide)) (fun _ => ?_)
              refine wC_exit ?_
              have hoe : ∀ j, j ≤ (bl s).length → o2.getD j false = (o.getD j false || nx.getD j false) := fun j hj => orTo_all ho2 j (by omega)
              cases q with
              | true =>
                have hless := round_less (b := nx) (by rw [hol, hbl]; exact ho2) (by rw [hol, hbl]; exact hq.1 rfl)
                exact ⟨falses o2 + 1, by omega, o2, true, by rw [if_pos rfl], hmst o2 (by omega) hoe, (fun h => by cases h), pinned_mk rfl ⟨rfl, rfl, rfl, rfl, trivial⟩ ⟨rfl, rfl, trivial⟩⟩
              | false =>
                have hne : ¬ ∃ j, j < o.length ∧ nx.getD j false = true ∧ o.getD j false = false := by
                  rw [hol, hbl]
                  intro h
                  exact absurd (hq.2 h) (by decide)
                obtain rfl : o2 = o := round_same (b := nx) (by rw [hol, hbl]; exact ho2) hne
                exact ⟨0, by omega, o2, false, rfl, ho, (fun _ => by rw [hnx]; exact hpn hne), pinned_mk rfl ⟨rfl, rfl, rfl, rfl, trivial⟩ ⟨rfl, rfl, trivial⟩⟩
          | false =>
            have hsem := (mid_end h6 hrl ho (hp rfl)).eq
            refine wC_seq ?_
            refine wC_seq ?_
            refine wC_reg ?_
            refine wS_set rfl rfl rfl (a_move rfl rfl) ?_
            refine wO_nil ?_
            refine wC_cond (p := false) rfl (fun hc => absurd hc (by decide)) (fun _ => ?_)
            refine wC_exit ?_
            exact ⟨_, slx_own rfl hn7 (congrArg (fun l => Ob.row 1 true 1 (rowP l)) hsem), (fun z es h => by cases h), pinned_mk rfl ⟨rfl, trivial⟩ trivial⟩
      · have hsem := (sem_zero (fr := fr) (w := bl s) fun z => Mat.of_other (r := r) (w := z) ⟨h2, h3, h4, h5, h6⟩).eq
        rw [hbl] at hsem
        refine wC_seq ?_
        refine wC_reg ?_
        refine wS_set rfl rfl rfl (i_eql (p := false) rfl rfl (decide_eq_false (by omega))) ?_
        refine wS_set rfl rfl rfl (a_assign rfl rfl) ?_
        refine wO_nil ?_
        refine wC_cond (p := false) rfl (fun hc => absurd hc (by decide)) (fun _ => ?_)
        refine wC_seq ?_
        refine wC_reg ?_
        refine wS_set rfl rfl rfl (i_eql (p := false) rfl rfl (decide_eq_false (by omega))) ?_
        refine wS_set rfl rfl rfl (a_assign rfl rfl) ?_
        refine wO_nil ?_
        refine wC_cond (p := false) rfl (fun hc => absurd hc (by decide)) (fun _ => ?_)
        refine wC_seq ?_
        refine wC_reg ?_
        refine wS_set rfl rfl rfl (i_eql (p := false) rfl rfl (decide_eq_false (by omega))) ?_
        refine wS_set rfl rfl rfl (a_assign rfl rfl) ?_
        refine wO_nil ?_
        refine wC_cond (p := false) rfl (fun hc => absurd hc (by decide)) (fun _ => ?_)
        refine wC_seq ?_
        refine wC_reg ?_
        refine wS_set rfl rfl rfl (i_eql (p := false) rfl rfl (decide_eq_false (by omega))) ?_
        refine wS_set rfl rfl rfl (a_assign rfl rfl) ?_
        refine wO_nil ?_
        refine wC_cond (p := false) rfl (fun hc => absurd hc (by decide)) (fun _ => ?_)
        refine wC_seq ?_
        refine wC_reg ?_
        refine wS_set rfl rfl rfl (i_eql (p := false) rfl rfl (decide_eq_false (by omega))) ?_
        refine wS_set rfl rfl rfl (a_assign rfl rfl) ?_
        refine wO_nil ?_
        refine wC_cond (p := false) rfl (fun hc => absurd hc (by decide)) (fun _ => ?_)
        refine wC_skip ?_
        exact ⟨_, slx_own rfl hn7 (congrArg (Ob.row 1 true 1) (e0.trans (congrArg rowP hsem))), (fun z es h => by cases h), pinned_mk rfl ⟨rfl, trivial⟩ trivial⟩
    · obtain ⟨x, hx, hnl, hi⟩ := hi
      replace hi := hi.form
      obtain ⟨g, h, rfl⟩ := hi
      simp only at hx
      refine wC_seq ?_
      refine wC_reg ?_
      refine wS_set rfl rfl rfl (a_moveS (hx.keep rfl) (hT rfl) rfl (hT rfl) rfl) ?_
      refine wS_set rfl rfl rfl (a_assignS (hx.keep rfl) (hT rfl) rfl (hT rfl) rfl) ?_
      refine wO_nil ?_
      refine wC_ret ?_
      exact end_sl rfl (hx.keep rfl) hnl

end Go.Proofs.YtjppkpjlbbkdnaaDoor
