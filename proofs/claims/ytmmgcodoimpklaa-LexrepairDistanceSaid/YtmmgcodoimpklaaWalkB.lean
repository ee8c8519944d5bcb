/-
  What is proved here: strings by their bytes, what one edit costs, the laws on bounds and single edits over the evaluator. Conditions: those that stand at each theorem.
-/
import Derived.Test.YtmmgcodoimpklaaWalkA

namespace Go.Proofs.Ytmmgcodoimpklaa
open Go.Dv

def bl (s : ByteArray) : List UInt8 := s.data.toList
theorem bl_len (s : ByteArray) : (bl s).length = s.size := rfl
theorem at8_bl (s : ByteArray) (i : Nat) : at8 s i = ((bl s).getD i 0).toNat := by
  unfold at8 byteAt bl
  by_cases h : i < s.size
  · rw [getElem?_pos s i h, List.getD_eq_getElem?_getD, List.getElem?_eq_getElem (by exact h)]
    rfl
  · rw [getElem?_neg s i h, List.getD_eq_getElem?_getD, List.getElem?_eq_none (by exact Nat.le_of_not_lt h)]
theorem bl_app (a b : ByteArray) : bl (a ++ b) = bl a ++ bl b := by simp [bl]
theorem bl_ext (s : ByteArray) (l h : Nat) : bl (s.extract l h) = ((bl s).drop l).take (h - l) := by
  simp [bl]
theorem size_ext (s : ByteArray) (l h : Nat) (h1 : l ≤ h) (h2 : h ≤ s.size) : (s.extract l h).size = h - l := by
  have := congrArg List.length (bl_ext s l h)
  rw [bl_len, List.length_take, List.length_drop, bl_len] at this
  omega
theorem size_app (a b : ByteArray) : (a ++ b).size = a.size + b.size := by
  have := congrArg List.length (bl_app a b)
  rw [bl_len, List.length_append, bl_len, bl_len] at this
  exact this
theorem at8_app (a b : ByteArray) (i : Nat) : at8 (a ++ b) i = if i < a.size then at8 a i else at8 b (i - a.size) := by
  rw [at8_bl, at8_bl, at8_bl, bl_app]
  simp only [List.getD_eq_getElem?_getD]
  split
  · rename_i h; rw [List.getElem?_append_left (by rw [bl_len]; exact h)]
  · rename_i h; rw [List.getElem?_append_right (by rw [bl_len]; omega), bl_len]
theorem at8_ext (s : ByteArray) (l h i : Nat) (hi : l + i < h) : at8 (s.extract l h) i = at8 s (l + i) := by
  rw [at8_bl, at8_bl, bl_ext]
  simp only [List.getD_eq_getElem?_getD]
  rw [List.getElem?_take_of_lt (by omega), List.getElem?_drop]
theorem str_eq {a b : ByteArray} : (a.toList == b.toList) = decide (osa (at8 a) (at8 b) a.size b.size = 0) := by
  have e : (a.toList == b.toList) = decide (bl a = bl b) := by
    rw [ByteArray.toList_eq, ByteArray.toList_eq]
    by_cases h : bl a = bl b
    · rw [decide_eq_true h]; exact beq_iff_eq.2 h
    · rw [decide_eq_false h]; exact beq_eq_false_iff_ne.2 h
  rw [e]
  refine decide_eq_decide.2 ⟨fun h => ?_, fun h => ?_⟩
  · have hs : a.size = b.size := by rw [← bl_len, ← bl_len, h]
    rw [← hs]
    exact osa_same fun k _ => by rw [at8_bl, at8_bl, h]
  · obtain ⟨h1, h2⟩ := osa_zero _ _ h
    refine List.ext_getElem h1 fun k k1 k2 => ?_
    have := h2 k k1
    rw [at8_bl, at8_bl, List.getD_eq_getElem?_getD, List.getD_eq_getElem?_getD, List.getElem?_eq_getElem k1, List.getElem?_eq_getElem k2] at this
    exact UInt8.toNat_inj.1 this

section
variable {s t : ByteArray} {k : Nat}
theorem one_ins (hk : k ≤ s.size) (ht : t.size = s.size + 1) (h1 : ∀ i, i < k → at8 t i = at8 s i) (h2 : ∀ i, k ≤ i → i < s.size → at8 t (i + 1) = at8 s i) : osa (at8 s) (at8 t) s.size t.size = 1 := by
  have g := osa_ge (a := at8 s) (b := at8 t) _ s.size t.size (Nat.le_refl _)
  have b0 : osa (at8 s) (at8 t) k k = 0 := osa_same fun i hi => (h1 i hi).symm
  have b1 := osa_left (a := at8 s) (b := at8 t) k k
  have r := osa_rest (a := at8 s) (b := at8 t) (i := k) (j := k + 1) (c := 1) (by omega) (s.size - k) fun m hm => by
    rw [show k + 1 + m = (k + m) + 1 by omega]; exact (h2 (k + m) (by omega) (by omega)).symm
  rw [show k + (s.size - k) = s.size by omega, show k + 1 + (s.size - k) = t.size by omega] at r
  omega
theorem one_del (hk : k < s.size) (ht : t.size + 1 = s.size) (h1 : ∀ i, i < k → at8 t i = at8 s i) (h2 : ∀ i, k ≤ i → i < t.size → at8 t i = at8 s (i + 1)) : osa (at8 s) (at8 t) s.size t.size = 1 := by
  have g := osa_ge (a := at8 s) (b := at8 t) _ s.size t.size (Nat.le_refl _)
  have b0 : osa (at8 s) (at8 t) k k = 0 := osa_same fun i hi => (h1 i hi).symm
  have b1 := osa_up (a := at8 s) (b := at8 t) k k
  have r := osa_rest (a := at8 s) (b := at8 t) (i := k + 1) (j := k) (c := 1) (by omega) (t.size - k) fun m hm => by
    rw [show k + 1 + m = (k + m) + 1 by omega]; exact (h2 (k + m) (by omega) (by omega)).symm
  rw [show k + 1 + (t.size - k) = s.size by omega, show k + (t.size - k) = t.size by omega] at r
  omega
theorem one_swap (hk : k + 1 < s.size) (ht : t.size = s.size) (h1 : ∀ i, i < k → at8 t i = at8 s i) (h2 : at8 t k = at8 s (k + 1)) (h3 : at8 t (k + 1) = at8 s k) (h4 : ∀ i, k + 2 ≤ i → i < s.size → at8 t i = at8 s i) : osa (at8 s) (at8 t) s.size t.size ≤ 1 := by
  have b0 : osa (at8 s) (at8 t) k k = 0 := osa_same fun i hi => (h1 i hi).symm
  have b1 := osa_swap (a := at8 s) (b := at8 t) k k h2.symm h3.symm
  have r := osa_rest (a := at8 s) (b := at8 t) (i := k + 2) (j := k + 2) (c := 1) (by omega) (s.size - (k + 2)) fun m hm => (h4 (k + 2 + m) (by omega) (by omega)).symm
  rw [show k + 2 + (s.size - (k + 2)) = s.size by omega] at r
  rw [ht]; exact r
theorem one_rep (hk : k < s.size) (ht : t.size = s.size) (h1 : ∀ i, i < s.size → i ≠ k → at8 t i = at8 s i) : osa (at8 s) (at8 t) s.size t.size ≤ 1 ∧ decide (osa (at8 s) (at8 t) s.size t.size = 0) = decide (at8 t k = at8 s k) := by
  constructor
  · have b0 : osa (at8 s) (at8 t) k k = 0 := osa_same fun i hi => (h1 i (by omega) (by omega)).symm
    have b1 := osa_diag (a := at8 s) (b := at8 t) k k
    have r := osa_rest (a := at8 s) (b := at8 t) (i := k + 1) (j := k + 1) (c := 1) (by split at b1 <;> omega) (s.size - (k + 1)) fun m hm => (h1 (k + 1 + m) (by omega) (by omega)).symm
    rw [show k + 1 + (s.size - (k + 1)) = s.size by omega] at r
    rw [ht]; exact r
  · refine decide_eq_decide.2 ⟨fun h => ((osa_zero _ _ h).2 k hk).symm, fun h => ?_⟩
    rw [ht]
    refine osa_same fun i hi => ?_
    by_cases e : i = k
    · subst e; exact h.symm
    · exact (h1 i hi e).symm
end
end Go.Proofs.Ytmmgcodoimpklaa

namespace Go.Proofs.Ytmmgcodoimpklaa
open Go.Dv

section
variable {L : Lite} {ext : Ext} {n0 : Nat} {sl : Nat → X} {ob : Nat → Ob} {d : Option Tmp} {ty : TypeId} {pos : String} {af : Array Edge} {gd : Option (Nat × Bool)} {t yt : TypeId} {x y : Operand}
theorem z_sub {a b : Nat} (h1 : a ≤ 1000000) (h2 : b ≤ 1000000) (hx : (St.opd ⟨n0, sl, ob⟩) x = .v (.lit (.int .i64 (a : Int)))) (hy : (St.opd ⟨n0, sl, ob⟩) y = .v (.lit (.int .i64 (b : Int)))) :
    ActEv L ext ⟨d, .binOp .sub t x y yt, ty, pos, af, gd⟩ ⟨n0, sl, ob⟩ (.v (.lit (.int .i64 ((a : Int) - b)))) ob [] [] := by
  refine a_bin hx hy ?_
  have e : IntKind.i64.wrap ((a : Int) - b) = (a : Int) - b := by
    simp [IntKind.wrap, IntKind.signed, IntKind.bits]
    split <;> omega
  simp [litBin, intOp, e]
theorem z_geqT {a : Nat} {z : Int} (h : z ≤ (a : Int)) (hx : (St.opd ⟨n0, sl, ob⟩) x = .v (.lit (.int .i64 (a : Int)))) (hy : (St.opd ⟨n0, sl, ob⟩) y = .v (.lit (.int .i64 z))) :
    ActEv L ext ⟨d, .binOp .geq t x y yt, ty, pos, af, gd⟩ ⟨n0, sl, ob⟩ (.v (.lit (.bool true))) ob [] [] :=
  a_bin hx hy (by simp [litBin, intOp, cmpI, h])
end

set_option maxRecDepth 100000 in
theorem ev4 {a b : ByteArray} : FnEv tab ext 4 [.v (strV a), .v (strV b)] [] (.ret [boolV true], []) := by
  refine fn_go _ no4 fn4 rfl rfl rfl ?_
  by_cases h1 : a.size > 30
  · refine wC_seq ?_
    refine wC_reg ?_
    refine wS_set rfl rfl rfl (a_assign rfl rfl) ?_
    refine wO_nil ?_
    refine wC_seq ?_
    refine wC_seq ?_
    refine wC_reg ?_
    refine wS_set rfl rfl rfl (a_move rfl rfl) ?_
    refine wS_set rfl rfl rfl (a_lenStr rfl rfl (hT rfl) rfl) ?_
    refine wS_set rfl rfl rfl (n_gtrT (a := a.size) (b := 30) h1 rfl rfl) ?_
    refine wS_set rfl rfl rfl (a_move rfl rfl) ?_
    refine wS_skip rfl rfl rfl ?_
    refine wS_skip rfl rfl rfl ?_
    refine wS_skip rfl rfl rfl ?_
    refine wS_set rfl rfl rfl (a_pickT rfl rfl) ?_
    refine wO_nil ?_
    refine wC_cond (p := true) rfl (fun _ => ?_) (fun hc => absurd hc (by decide))
    refine wC_seq ?_
    refine wC_reg ?_
    refine wS_set rfl rfl rfl (a_call rfl rfl fn6 rfl rfl (ev6)) ?_
    refine wS_set rfl rfl rfl (a_assign rfl rfl) ?_
    refine wO_nil ?_
    refine wC_ret ?_
    exact end_tmp rfl rfl
  by_cases h2 : b.size > 30
  · refine wC_seq ?_
    refine wC_reg ?_
    refine wS_set rfl rfl rfl (a_assign rfl rfl) ?_
    refine wO_nil ?_
    refine wC_seq ?_
    refine wC_seq ?_
    refine wC_reg ?_
    refine wS_set rfl rfl rfl (a_move rfl rfl) ?_
    refine wS_set rfl rfl rfl (a_lenStr rfl rfl (hT rfl) rfl) ?_
    refine wS_set rfl rfl rfl (n_gtrF (a := a.size) (b := 30) h1 rfl rfl) ?_
    refine wS_set rfl rfl rfl (a_move rfl rfl) ?_
    refine wS_set rfl rfl rfl (a_move rfl rfl) ?_
    refine wS_set rfl rfl rfl (a_lenStr rfl rfl (hT rfl) rfl) ?_
    refine wS_set rfl rfl rfl (n_gtrT (a := b.size) (b := 30) h2 rfl rfl) ?_
    refine wS_set rfl rfl rfl (a_pickF rfl rfl) ?_
    refine wO_nil ?_
    refine wC_cond (p := true) rfl (fun _ => ?_) (fun hc => absurd hc (by decide))
    refine wC_seq ?_
    refine wC_reg ?_
    refine wS_set rfl rfl rfl (a_call rfl rfl fn6 rfl rfl (ev6)) ?_
    refine wS_set rfl rfl rfl (a_assign rfl rfl) ?_
    refine wO_nil ?_
    refine wC_ret ?_
    exact end_tmp rfl rfl
  have hs := osa_sym (a := at8 a) (b := at8 b) _ a.size b.size (Nat.le_refl _)
  have hg := osa_ge (a := at8 a) (b := at8 b) _ a.size b.size (Nat.le_refl _)
  have hl := osa_le (a := at8 a) (b := at8 b) _ a.size b.size (Nat.le_refl _)
  refine wC_seq ?_
  refine wC_reg ?_
  refine wS_set rfl rfl rfl (a_assign rfl rfl) ?_
  refine wO_nil ?_
  refine wC_seq ?_
  refine wC_seq ?_
  refine wC_reg ?_
  refine wS_set rfl rfl rfl (a_move rfl rfl) ?_
  refine wS_set rfl rfl rfl (a_lenStr rfl rfl (hT rfl) rfl) ?_
  refine wS_set rfl rfl rfl (n_gtrF (a := a.size) (b := 30) h1 rfl rfl) ?_
  refine wS_set rfl rfl rfl (a_move rfl rfl) ?_
  refine wS_set rfl rfl rfl (a_move rfl rfl) ?_
  refine wS_set rfl rfl rfl (a_lenStr rfl rfl (hT rfl) rfl) ?_
  refine wS_set rfl rfl rfl (n_gtrF (a := b.size) (b := 30) h2 rfl rfl) ?_
  refine wS_set rfl rfl rfl (a_pickF rfl rfl) ?_
  refine wO_nil ?_
  refine wC_cond (p := false) rfl (fun hc => absurd hc (by decide)) (fun _ => ?_)
  refine wC_skip ?_
  refine wC_seq ?_
  refine wC_reg ?_
  refine wS_set rfl rfl rfl (a_move rfl rfl) ?_
  refine wS_set rfl rfl rfl (a_move rfl rfl) ?_
  refine wS_set rfl rfl rfl (a_call rfl rfl fn7 rfl rfl (ev7 (by omega) (by omega))) ?_
  refine wS_set rfl rfl rfl (a_assign rfl rfl) ?_
  refine wO_nil ?_
  refine wC_seq ?_
  refine wC_reg ?_
  refine wS_set rfl rfl rfl (a_call rfl rfl fn6 rfl rfl (ev6)) ?_
  refine wS_set rfl rfl rfl (a_move rfl rfl) ?_
  refine wS_set rfl rfl rfl (a_move rfl rfl) ?_
  refine wS_set rfl rfl rfl (a_move rfl rfl) ?_
  refine wS_set rfl rfl rfl (a_move rfl rfl) ?_
  refine wS_set rfl rfl rfl (a_call rfl rfl fn7 rfl rfl (ev7 (by omega) (by omega))) ?_
  refine wS_set rfl rfl rfl (n_eqlT hs rfl rfl) ?_
  refine wS_set rfl rfl rfl (a_pickT rfl rfl) ?_
  refine wS_set rfl rfl rfl (a_move rfl rfl) ?_
  refine wS_set rfl rfl rfl (a_move rfl rfl) ?_
  refine wS_set rfl rfl rfl (n_eql (b := 0) rfl rfl) ?_
  refine wS_set rfl rfl rfl (a_move rfl rfl) ?_
  refine wS_set rfl rfl rfl (a_move rfl rfl) ?_
  refine wS_set rfl rfl rfl (s_eql str_eq rfl rfl) ?_
  refine wS_set rfl rfl rfl (a_binBT (eqlB rfl) rfl rfl (hT rfl) rfl) ?_
  refine wS_set rfl rfl rfl (a_pickT rfl rfl) ?_
  refine wS_set rfl rfl rfl (a_move rfl rfl) ?_
  refine wS_set rfl rfl rfl (a_move rfl rfl) ?_
  refine wS_set rfl rfl rfl (a_move rfl rfl) ?_
  refine wS_set rfl rfl rfl (a_lenStr rfl rfl (hT rfl) rfl) ?_
  refine wS_set rfl rfl rfl (a_move rfl rfl) ?_
  refine wS_set rfl rfl rfl (a_lenStr rfl rfl (hT rfl) rfl) ?_
  refine wS_set rfl rfl rfl (z_sub (a := a.size) (b := b.size) (by omega) (by omega) rfl rfl) ?_
  refine wS_set rfl rfl rfl (z_geqT (a := osa (at8 a) (at8 b) a.size b.size) (by omega) rfl rfl) ?_
  refine wS_set rfl rfl rfl (a_pickT rfl rfl) ?_
  refine wS_set rfl rfl rfl (a_move rfl rfl) ?_
  refine wS_set rfl rfl rfl (a_move rfl rfl) ?_
  refine wS_set rfl rfl rfl (a_move rfl rfl) ?_
  refine wS_set rfl rfl rfl (a_lenStr rfl rfl (hT rfl) rfl) ?_
  refine wS_set rfl rfl rfl (a_move rfl rfl) ?_
  refine wS_set rfl rfl rfl (a_lenStr rfl rfl (hT rfl) rfl) ?_
  refine wS_set rfl rfl rfl (z_sub (a := b.size) (b := a.size) (by omega) (by omega) rfl rfl) ?_
  refine wS_set rfl rfl rfl (z_geqT (a := osa (at8 a) (at8 b) a.size b.size) (by omega) rfl rfl) ?_
  refine wS_set rfl rfl rfl (a_pickT rfl rfl) ?_
  refine wS_set rfl rfl rfl (a_move rfl rfl) ?_
  refine wS_set rfl rfl rfl (a_move rfl rfl) ?_
  refine wS_set rfl rfl rfl (a_move rfl rfl) ?_
  refine wS_set rfl rfl rfl (a_lenStr rfl rfl (hT rfl) rfl) ?_
  refine wS_set rfl rfl rfl (a_move rfl rfl) ?_
  refine wS_set rfl rfl rfl (a_lenStr rfl rfl (hT rfl) rfl) ?_
  refine wS_set rfl rfl rfl (n_max2 (a := a.size) (b := b.size) rfl rfl) ?_
  refine wS_set rfl rfl rfl (n_leqT (a := osa (at8 a) (at8 b) a.size b.size) (b := max a.size b.size) hl rfl rfl) ?_
  refine wS_set rfl rfl rfl (a_pickT rfl rfl) ?_
  refine wS_set rfl rfl rfl (a_assign rfl rfl) ?_
  refine wO_nil ?_
  refine wC_ret ?_
  exact end_tmp rfl rfl

set_option maxRecDepth 100000 in
theorem ev5 {s : ByteArray} {p c : Nat} (hp : p < 256) (hc : c < 256) : FnEv tab ext 5 [.v (strV s), .v (byteV p), .v (byteV c)] [] (.ret [boolV true], []) := by
  refine fn_go _ no5 fn5 rfl rfl rfl ?_
  by_cases h1 : s.size < 2
  · refine wC_seq ?_
    refine wC_reg ?_
    refine wS_set rfl rfl rfl (a_assign rfl rfl) ?_
    refine wO_nil ?_
    refine wC_seq ?_
    refine wC_seq ?_
    refine wC_reg ?_
    refine wS_set rfl rfl rfl (a_move rfl rfl) ?_
    refine wS_set rfl rfl rfl (a_lenStr rfl rfl (hT rfl) rfl) ?_
    refine wS_set rfl rfl rfl (n_lssT (a := s.size) (b := 2) h1 rfl rfl) ?_
    refine wS_set rfl rfl rfl (a_move rfl rfl) ?_
    refine wS_skip rfl rfl rfl ?_
    refine wS_skip rfl rfl rfl ?_
    refine wS_skip rfl rfl rfl ?_
    refine wS_set rfl rfl rfl (a_pickT rfl rfl) ?_
    refine wO_nil ?_
    refine wC_cond (p := true) rfl (fun _ => ?_) (fun hc => absurd hc (by decide))
    refine wC_seq ?_
    refine wC_reg ?_
    refine wS_set rfl rfl rfl (a_call rfl rfl fn6 rfl rfl (ev6)) ?_
    refine wS_set rfl rfl rfl (a_assign rfl rfl) ?_
    refine wO_nil ?_
    refine wC_ret ?_
    exact end_tmp rfl rfl
  by_cases h2 : s.size > 30
  · refine wC_seq ?_
    refine wC_reg ?_
    refine wS_set rfl rfl rfl (a_assign rfl rfl) ?_
    refine wO_nil ?_
    refine wC_seq ?_
    refine wC_seq ?_
    refine wC_reg ?_
    refine wS_set rfl rfl rfl (a_move rfl rfl) ?_
    refine wS_set rfl rfl rfl (a_lenStr rfl rfl (hT rfl) rfl) ?_
    refine wS_set rfl rfl rfl (n_lssF (a := s.size) (b := 2) h1 rfl rfl) ?_
    refine wS_set rfl rfl rfl (a_move rfl rfl) ?_
    refine wS_set rfl rfl rfl (a_move rfl rfl) ?_
    refine wS_set rfl rfl rfl (a_lenStr rfl rfl (hT rfl) rfl) ?_
    refine wS_set rfl rfl rfl (n_gtrT (a := s.size) (b := 30) h2 rfl rfl) ?_
    refine wS_set rfl rfl rfl (a_pickF rfl rfl) ?_
    refine wO_nil ?_
    refine wC_cond (p := true) rfl (fun _ => ?_) (fun hc => absurd hc (by decide))
    refine wC_seq ?_
    refine wC_reg ?_
    refine wS_set rfl rfl rfl (a_call rfl rfl fn6 rfl rfl (ev6)) ?_
    refine wS_set rfl rfl rfl (a_assign rfl rfl) ?_
    refine wO_nil ?_
    refine wC_ret ?_
    exact end_tmp rfl rfl
  have hk := Nat.mod_lt p (show 0 < s.size - 1 by omega)
  have hby : bytesOf (([[byteV c]].drop 0).take 1) = some [UInt8.ofNat c] := rfl
  refine wC_seq ?_
  refine wC_reg ?_
  refine wS_set rfl rfl rfl (a_assign rfl rfl) ?_
  refine wO_nil ?_
  refine wC_seq ?_
  refine wC_seq ?_
  refine wC_reg ?_
  refine wS_set rfl rfl rfl (a_move rfl rfl) ?_
  refine wS_set rfl rfl rfl (a_lenStr rfl rfl (hT rfl) rfl) ?_
  refine wS_set rfl rfl rfl (n_lssF (a := s.size) (b := 2) h1 rfl rfl) ?_
  refine wS_set rfl rfl rfl (a_move rfl rfl) ?_
  refine wS_set rfl rfl rfl (a_move rfl rfl) ?_
  refine wS_set rfl rfl rfl (a_lenStr rfl rfl (hT rfl) rfl) ?_
  refine wS_set rfl rfl rfl (n_gtrF (a := s.size) (b := 30) h2 rfl rfl) ?_
  refine wS_set rfl rfl rfl (a_pickF rfl rfl) ?_
  refine wO_nil ?_
  refine wC_cond (p := false) rfl (fun hc => absurd hc (by decide)) (fun _ => ?_)
  refine wC_skip ?_
  refine wC_seq ?_
  refine wC_reg ?_
  refine wS_set rfl rfl rfl (a_move rfl rfl) ?_
  refine wS_set rfl rfl rfl (n_conv rfl (hT rfl) rfl (hT rfl) rfl (by simp only [capN]; omega)) ?_
  refine wS_set rfl rfl rfl (a_move rfl rfl) ?_
  refine wS_set rfl rfl rfl (a_lenStr rfl rfl (hT rfl) rfl) ?_
  refine wS_set rfl rfl rfl (n_sub (a := s.size) (b := 1) rfl rfl (by omega) (by simp only [capN]; omega)) ?_
  refine wS_set rfl rfl rfl (n_rem (a := p) (b := s.size - 1) rfl rfl (by omega)) ?_
  refine wS_set rfl rfl rfl (a_assign rfl rfl) ?_
  refine wO_nil ?_
  generalize p % (s.size - 1) = k at hk ⊢
  have ho : (⟨[UInt8.ofNat c].toArray⟩ : ByteArray).size = 1 := rfl
  have ho8 : at8 ⟨[UInt8.ofNat c].toArray⟩ 0 = c := by
    rw [at8_bl]
    show (UInt8.ofNat c).toNat = c
    rw [UInt8.toNat_ofNat']
    exact Nat.mod_eq_of_lt hc
  generalize hone : (⟨[UInt8.ofNat c].toArray⟩ : ByteArray) = one at ho ho8
  have q1 := size_ext s 0 k (by omega) (by omega)
  have q2 := size_ext s k s.size (by omega) (by omega)
  have q3 := size_ext s (k + 1) s.size (by omega) (by omega)
  have q4 := size_ext s (k + 1) (k + 2) (by omega) (by omega)
  have q5 := size_ext s k (k + 1) (by omega) (by omega)
  have q6 := size_ext s (k + 2) s.size (by omega) (by omega)
  have i1 : osa (at8 s) (at8 (s.extract 0 k ++ one ++ s.extract k s.size)) s.size (s.extract 0 k ++ one ++ s.extract k s.size).size = 1 := by
    refine one_ins (k := k) (by omega) (by simp only [size_app]; omega) (fun i hi => ?_) fun i hi hi' => ?_
    · simp only [at8_app, size_app, q1, ho]
      rw [if_pos (by omega), if_pos (by omega), at8_ext _ _ _ _ (by omega), Nat.zero_add]
    · simp only [at8_app, size_app, q1, ho]
      rw [if_neg (by omega), at8_ext _ _ _ _ (by omega), show k + (i + 1 - (k - 0 + 1)) = i by omega]
  have i2 : osa (at8 s) (at8 (s.extract 0 k ++ s.extract (k + 1) s.size)) s.size (s.extract 0 k ++ s.extract (k + 1) s.size).size = 1 := by
    refine one_del (k := k) (by omega) (by simp only [size_app]; omega) (fun i hi => ?_) fun i hi hi' => ?_
    · simp only [at8_app, q1]
      rw [if_pos (by omega), at8_ext _ _ _ _ (by omega), Nat.zero_add]
    · simp only [size_app, q1, q3] at hi'
      simp only [at8_app, q1]
      rw [if_neg (by omega), at8_ext _ _ _ _ (by omega), show k + 1 + (i - (k - 0)) = i + 1 by omega]
  have i3 : osa (at8 s) (at8 (s.extract 0 k ++ s.extract (k + 1) (k + 2) ++ s.extract k (k + 1) ++ s.extract (k + 2) s.size)) s.size (s.extract 0 k ++ s.extract (k + 1) (k + 2) ++ s.extract k (k + 1) ++ s.extract (k + 2) s.size).size ≤ 1 := by
    refine one_swap (k := k) (by omega) (by simp only [size_app]; omega) (fun i hi => ?_) ?_ ?_ fun i hi hi' => ?_
    · simp only [at8_app, size_app, q1, q4, q5]
      rw [if_pos (by omega), if_pos (by omega), if_pos (by omega), at8_ext _ _ _ _ (by omega), Nat.zero_add]
    · simp only [at8_app, size_app, q1, q4, q5]
      rw [if_pos (by omega), if_pos (by omega), if_neg (by omega), at8_ext _ _ _ _ (by omega), show k + 1 + (k - (k - 0)) = k + 1 by omega]
    · simp only [at8_app, size_app, q1, q4, q5]
      rw [if_pos (by omega), if_neg (by omega), at8_ext _ _ _ _ (by omega), show k + (k + 1 - (k - 0 + (k + 2 - (k + 1)))) = k by omega]
    · simp only [at8_app, size_app, q1, q4, q5]
      rw [if_neg (by omega), at8_ext _ _ _ _ (by omega), show k + 2 + (i - (k - 0 + (k + 2 - (k + 1)) + (k + 1 - k))) = i by omega]
  have i4 := one_rep (s := s) (t := s.extract 0 k ++ one ++ s.extract (k + 1) s.size) (k := k) (by omega) (by simp only [size_app]; omega) fun i hi hne => by
    simp only [at8_app, size_app, q1, ho]
    by_cases e : i < k
    · rw [if_pos (by omega), if_pos (by omega), at8_ext _ _ _ _ (by omega), Nat.zero_add]
    · rw [if_neg (by omega), at8_ext _ _ _ _ (by omega), show k + 1 + (i - (k - 0 + 1)) = i by omega]
  have i5 : at8 (s.extract 0 k ++ one ++ s.extract (k + 1) s.size) k = c := by
    simp only [at8_app, size_app, q1, ho]
    rw [if_pos (by omega), if_neg (by omega), show k - (k - 0) = 0 by omega, ho8]
  obtain ⟨i4, i6⟩ := i4
  rw [i5] at i6
  subst hone
  refine wC_seq ?_
  refine wC_reg ?_
  refine wS_set rfl rfl rfl (a_move rfl rfl) ?_
  refine wS_set rfl rfl rfl (a_buildSlice (ys := [byteV c]) (es := [[byteV c]]) rfl (hT rfl) rfl (hT rfl) rfl rfl rfl rfl rfl) ?_
  refine wS_set rfl rfl rfl (a_convBytesO rfl rfl (hT rfl) rfl (hT rfl) rfl rfl (hT rfl) rfl hby) ?_
  refine wS_set rfl rfl rfl (a_assign rfl rfl) ?_
  refine wO_nil ?_
  refine wC_seq ?_
  refine wC_regD (by kernel_rfl) ?_
  refine wS_set rfl rfl rfl (a_move rfl rfl) ?_
  refine wS_set rfl rfl rfl (a_move rfl rfl) ?_
  refine wS_set rfl rfl rfl (s_slice rfl (hT rfl) rfl rfl ⟨_, rfl⟩ (by omega) (by omega)) ?_
  refine wS_set rfl rfl rfl (a_move rfl rfl) ?_
  refine wS_set rfl rfl rfl (s_add rfl rfl (by omega)) ?_
  refine wS_set rfl rfl rfl (a_move rfl rfl) ?_
  refine wS_set rfl rfl rfl (a_move rfl rfl) ?_
  refine wS_set rfl rfl rfl (s_slice rfl (hT rfl) rfl ⟨_, rfl⟩ rfl (by omega) (by omega)) ?_
  refine wS_set rfl rfl rfl (s_add rfl rfl (by simp only [size_app]; omega)) ?_
  refine wS_set rfl rfl rfl (a_assign rfl rfl) ?_
  refine wO_nil ⟨rfl, by kernel_rfl, ?_⟩
  refine wC_seq ?_
  refine wC_regD (by kernel_rfl) ?_
  refine wS_set rfl rfl rfl (a_move rfl rfl) ?_
  refine wS_set rfl rfl rfl (a_move rfl rfl) ?_
  refine wS_set rfl rfl rfl (s_slice rfl (hT rfl) rfl rfl ⟨_, rfl⟩ (by omega) (by omega)) ?_
  refine wS_set rfl rfl rfl (a_move rfl rfl) ?_
  refine wS_set rfl rfl rfl (a_move rfl rfl) ?_
  refine wS_set rfl rfl rfl (n_add (b := 1) rfl rfl (by simp only [capN]; omega)) ?_
  refine wS_set rfl rfl rfl (s_slice rfl (hT rfl) rfl ⟨_, rfl⟩ rfl (by omega) (by omega)) ?_
  refine wS_set rfl rfl rfl (s_add rfl rfl (by omega)) ?_
  refine wS_set rfl rfl rfl (a_assign rfl rfl) ?_
  refine wO_nil ⟨rfl, by kernel_rfl, ?_⟩
  refine wC_seq ?_
  refine wC_regD (by kernel_rfl) ?_
  refine wS_set rfl rfl rfl (a_move rfl rfl) ?_
  refine wS_set rfl rfl rfl (a_move rfl rfl) ?_
  refine wS_set rfl rfl rfl (s_slice rfl (hT rfl) rfl rfl ⟨_, rfl⟩ (by omega) (by omega)) ?_
  refine wS_set rfl rfl rfl (a_move rfl rfl) ?_
  refine wS_set rfl rfl rfl (a_move rfl rfl) ?_
  refine wS_set rfl rfl rfl (n_add (b := 1) rfl rfl (by simp only [capN]; omega)) ?_
  refine wS_set rfl rfl rfl (a_move rfl rfl) ?_
  refine wS_set rfl rfl rfl (n_add (b := 2) rfl rfl (by simp only [capN]; omega)) ?_
  refine wS_set rfl rfl rfl (s_slice rfl (hT rfl) rfl ⟨_, rfl⟩ ⟨_, rfl⟩ (by omega) (by omega)) ?_
  refine wS_set rfl rfl rfl (s_add rfl rfl (by omega)) ?_
  refine wS_set rfl rfl rfl (a_move rfl rfl) ?_
  refine wS_set rfl rfl rfl (a_move rfl rfl) ?_
  refine wS_set rfl rfl rfl (a_move rfl rfl) ?_
  refine wS_set rfl rfl rfl (n_add (b := 1) rfl rfl (by simp only [capN]; omega)) ?_
  refine wS_set rfl rfl rfl (s_slice rfl (hT rfl) rfl ⟨_, rfl⟩ ⟨_, rfl⟩ (by omega) (by omega)) ?_
  refine wS_set rfl rfl rfl (s_add rfl rfl (by simp only [size_app]; omega)) ?_
  refine wS_set rfl rfl rfl (a_move rfl rfl) ?_
  refine wS_set rfl rfl rfl (a_move rfl rfl) ?_
  refine wS_set rfl rfl rfl (n_add (b := 2) rfl rfl (by simp only [capN]; omega)) ?_
  refine wS_set rfl rfl rfl (s_slice rfl (hT rfl) rfl ⟨_, rfl⟩ rfl (by omega) (by omega)) ?_
  refine wS_set rfl rfl rfl (s_add rfl rfl (by simp only [size_app]; omega)) ?_
  refine wS_set rfl rfl rfl (a_assign rfl rfl) ?_
  refine wO_nil ⟨rfl, by kernel_rfl, ?_⟩
  refine wC_seq ?_
  refine wC_regD (by kernel_rfl) ?_
  refine wS_set rfl rfl rfl (a_move rfl rfl) ?_
  refine wS_set rfl rfl rfl (a_move rfl rfl) ?_
  refine wS_set rfl rfl rfl (s_slice rfl (hT rfl) rfl rfl ⟨_, rfl⟩ (by omega) (by omega)) ?_
  refine wS_set rfl rfl rfl (a_move rfl rfl) ?_
  refine wS_set rfl rfl rfl (s_add rfl rfl (by omega)) ?_
  refine wS_set rfl rfl rfl (a_move rfl rfl) ?_
  refine wS_set rfl rfl rfl (a_move rfl rfl) ?_
  refine wS_set rfl rfl rfl (n_add (b := 1) rfl rfl (by simp only [capN]; omega)) ?_
  refine wS_set rfl rfl rfl (s_slice rfl (hT rfl) rfl ⟨_, rfl⟩ rfl (by omega) (by omega)) ?_
  refine wS_set rfl rfl rfl (s_add rfl rfl (by simp only [size_app]; omega)) ?_
  refine wS_set rfl rfl rfl (a_assign rfl rfl) ?_
  refine wO_nil ⟨rfl, by kernel_rfl, ?_⟩
  refine wC_seq ?_
  refine wC_regD (by kernel_rfl) ?_
  refine wS_set rfl rfl rfl (a_call rfl rfl fn6 rfl rfl (ev6)) ?_
  refine wS_set rfl rfl rfl (a_move rfl rfl) ?_
  refine wS_set rfl rfl rfl (a_move rfl rfl) ?_
  refine wS_set rfl rfl rfl (a_move rfl rfl) ?_
  refine wS_set rfl rfl rfl (a_call rfl rfl fn7 rfl rfl (ev7 (by omega) (by simp only [size_app]; omega))) ?_
  refine wS_set rfl rfl rfl (n_eqlT (b := 1) i1 rfl rfl) ?_
  refine wS_set rfl rfl rfl (a_pickT rfl rfl) ?_
  refine wS_set rfl rfl rfl (a_move rfl rfl) ?_
  refine wS_set rfl rfl rfl (a_move rfl rfl) ?_
  refine wS_set rfl rfl rfl (a_move rfl rfl) ?_
  refine wS_set rfl rfl rfl (a_call rfl rfl fn7 rfl rfl (ev7 (by omega) (by simp only [size_app]; omega))) ?_
  refine wS_set rfl rfl rfl (n_eqlT (b := 1) i2 rfl rfl) ?_
  refine wS_set rfl rfl rfl (a_pickT rfl rfl) ?_
  refine wS_set rfl rfl rfl (a_move rfl rfl) ?_
  refine wS_set rfl rfl rfl (a_move rfl rfl) ?_
  refine wS_set rfl rfl rfl (a_move rfl rfl) ?_
  refine wS_set rfl rfl rfl (a_call rfl rfl fn7 rfl rfl (ev7 (by omega) (by simp only [size_app]; omega))) ?_
  refine wS_set rfl rfl rfl (n_leqT (b := 1) i3 rfl rfl) ?_
  refine wS_set rfl rfl rfl (a_pickT rfl rfl) ?_
  refine wS_set rfl rfl rfl (a_move rfl rfl) ?_
  refine wS_set rfl rfl rfl (a_move rfl rfl) ?_
  refine wS_set rfl rfl rfl (a_move rfl rfl) ?_
  refine wS_set rfl rfl rfl (a_call rfl rfl fn7 rfl rfl (ev7 (by omega) (by simp only [size_app]; omega))) ?_
  refine wS_set rfl rfl rfl (n_leqT (b := 1) i4 rfl rfl) ?_
  refine wS_set rfl rfl rfl (a_pickT rfl rfl) ?_
  refine wS_set rfl rfl rfl (a_move rfl rfl) ?_
  refine wS_set rfl rfl rfl (a_move rfl rfl) ?_
  refine wS_set rfl rfl rfl (a_move rfl rfl) ?_
  refine wS_set rfl rfl rfl (a_call rfl rfl fn7 rfl rfl (ev7 (by omega) (by simp only [size_app]; omega))) ?_
  refine wS_set rfl rfl rfl (n_eql (b := 0) rfl rfl) ?_
  refine wS_set rfl rfl rfl (a_move rfl rfl) ?_
  refine wS_set rfl rfl rfl (a_move rfl rfl) ?_
  refine wS_set rfl rfl rfl (a_move rfl rfl) ?_
  refine wS_set rfl rfl rfl (n_byteAt (by omega) rfl rfl (hT rfl) rfl) ?_
  refine wS_set rfl rfl rfl (n_eql (a := c) (b := at8 s k) rfl rfl) ?_
  refine wS_set rfl rfl rfl (a_binBT (eqlB i6) rfl rfl (hT rfl) rfl) ?_
  refine wS_set rfl rfl rfl (a_pickT rfl rfl) ?_
  refine wS_set rfl rfl rfl (a_assign rfl rfl) ?_
  refine wO_nil ⟨rfl, by kernel_rfl, ?_⟩
  refine wC_ret ?_
  exact end_tmp rfl rfl
end Go.Proofs.Ytmmgcodoimpklaa
