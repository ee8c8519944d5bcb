/-
  What is proved here: what the functions of the set package and of the reference answer, byte by byte. Conditions: words below 2^64, bytes below 256.
-/
import Derived.Test.YtgjochaacmkpaaaEvC
import Derived.Test.YtgjochaacmkpaaaRows

namespace Go.Proofs.Ytgjochaacmkpaaa
open Go.Dv

noncomputable def tab : Lite := mkLite Try.prog [] [(24, [1, 1, 1, 1]), (25, [1, 1, 1, 1])]

theorem closed : closedB Try.prog = true := by kernel_rfl

theorem tabOk : LiteOk Try.prog tab := by
  refine mk_ok Try.checked.mixed closed ?_
  intro t ks h xs ys us vs b w he h1 h2 l1 l2 r1 r2
  have guard : Try.prog.eqGuardType Try.prog.depth 24 = false ∧ Try.prog.eqGuardType Try.prog.depth 25 = false := ⟨by kernel_rfl, by kernel_rfl⟩
  have go : (t = 24 ∨ t = 25) ∧ ks = List.replicate 4 1 := by
    simp only [List.lookup] at h
    split at h
    · rename_i hh; cases h; exact ⟨.inl (by simpa using hh), rfl⟩
    · split at h
      · rename_i hh; cases h; exact ⟨.inr (by simpa using hh), rfl⟩
      · cases h
  obtain ⟨rfl | rfl, rfl⟩ := go
  · exact ⟨equal_ints (i := Try.t23) Try.underlying24 Try.underlying23 Try.type23 rfl xs ys us vs b w he h1 h2 l1 l2 r1 r2, guard.1⟩
  · exact ⟨equal_ints (i := Try.t23) Try.underlying25 Try.underlying23 Try.type23 rfl xs ys us vs b w he h1 h2 l1 l2 r1 r2, guard.2⟩

end Go.Proofs.Ytgjochaacmkpaaa

namespace Go.Proofs.Ytgjochaacmkpaaa
open Go.Dv

abbrev ext0 : Ext := fun _ => .none

def zi (k : IntKind) : X := .v (.lit (.int k ((0 : Nat) : Int)))

/-- What the table holds of the types that are met. -/
def tb : Nat → Option TI
  | 3 => some { und := .int .i64, size := 1, bytes := 8, kd := 1, zero := some [zi .i64] }
  | 4 => some { und := .bool, size := 1, bytes := 1, kd := 1, zero := some [.v (.lit (.bool false))] }
  | 5 => some { und := .int .u8, size := 1, bytes := 1, kd := 1, zero := some [zi .u8] }
  | 9 => some { und := .string, size := 1, bytes := 16, kd := 1, zero := some [.v (.lit (.string ⟨#[]⟩))] }
  | 23 => some { und := .int .u64, size := 1, bytes := 8, kd := 1, zero := some [zi .u64] }
  | 24 => some { und := .array 4 23, size := 4, bytes := 32, kd := 2, zero := some [zi .u64, zi .u64, zi .u64, zi .u64] }
  | 25 => some { und := .array 4 23, size := 4, bytes := 32, kd := 2, zero := some [zi .u64, zi .u64, zi .u64, zi .u64] }
  | 30 => some { und := .slice 25, size := 1, bytes := 24, kd := 1, zero := some [.nil 4] }
  | 32 => some { und := .slice 3, size := 1, bytes := 24, kd := 1, zero := some [.nil 1] }
  | 35 => some { und := .array 2 5, size := 2, bytes := 2, kd := 2, zero := some [zi .u8, zi .u8] }
  | 43 => some { und := .map 9 3, size := 1, bytes := 8, kd := 1, zero := some [.v (.lit (.map .none))] }
  | 44 => some { und := .slice 5, size := 1, bytes := 24, kd := 1, zero := some [.nil 1] }
  | _ => .none

theorem hT {t : Nat} {T : TI} (h : tb t = some T) : tab.ti t = T := by
  unfold tb at h
  split at h <;> first | (cases h; done) | (cases h; kernel_rfl)

theorem fn9 : tab.fn.getD 9 .none = some Try.f9 := by kernel_rfl
theorem fn10 : tab.fn.getD 10 .none = some Try.f10 := by kernel_rfl
theorem fn11 : tab.fn.getD 11 .none = some Try.f11 := by kernel_rfl
theorem fn12 : tab.fn.getD 12 .none = some Try.f12 := by kernel_rfl
theorem fn13 : tab.fn.getD 13 .none = some Try.f13 := by kernel_rfl
theorem fn14 : tab.fn.getD 14 .none = some Try.f14 := by kernel_rfl

/-- A set as its four words. -/
def word (n : Nat) : V := .lit (.int .u64 (n : Int))
def setV (W : List Nat) : V := .agg (W.map word)
def byteV (b : Nat) : V := .lit (.int .u8 (b : Int))
def boolV (p : Bool) : V := .lit (.bool p)
def isW (W : List Nat) : Prop := W.length = 4 ∧ ∀ i, W.getD i 0 < 2 ^ 64

/-- Is a byte in a set? -/
def has (W : List Nat) (b : Nat) : Bool := decide (W.getD (b / 64) 0 / 2 ^ (b % 64) &&& 1 = 1)

theorem cell_get {W : List Nat} (hW : isW W) {i : Nat} (hi : i < 4) : ((W.map word).map X.v)[0 + i * 1]? = some (.v (word (W.getD i 0))) := by
  have := hW.1
  rw [Nat.zero_add, Nat.mul_one, List.getElem?_map, List.getElem?_map, List.getElem?_eq_getElem (by omega)]
  simp [List.getD_eq_getElem?_getD, List.getElem?_eq_getElem (show i < W.length by omega)]

theorem cap64 {n : Nat} (h : n < 2 ^ 64) : n ≤ capN .u64 := by simp only [capN]; omega

set_option maxRecDepth 100000 in
theorem has_ev {W : List Nat} {b : Nat} (hb : b < 256) (hW : isW W) : FnEv tab ext0 13 [.v (setV W), .v (byteV b)] [] (.ret [boolV (has W b)], []) := by
  refine fn_go _ rfl fn13 rfl rfl rfl ?_
  have hq : b / 64 < 4 := by omega
  have hw := hW.2 (b / 64)
  refine wC_seq (wC_reg ?_)
  refine wS_set rfl rfl rfl (a_box2 rfl (hT rfl) rfl (by rw [List.length_map, hW.1]) rfl) ?_
  refine wS_set rfl rfl rfl (a_assign rfl rfl) ?_
  refine wO_nil ?_
  refine wC_seq (wC_reg ?_)
  refine wS_set rfl rfl rfl (a_move rfl rfl) ?_
  refine wS_set rfl rfl rfl (n_quo (b := 64) rfl rfl (by omega) (by simp only [capN]; omega)) ?_
  refine wS_set rfl rfl rfl (n_indexAddrA rfl rfl (hT rfl) rfl (hT rfl) hq) ?_
  refine wS_set rfl rfl rfl (a_load1 rfl rfl (hT rfl) rfl (cell_get hW hq)) ?_
  refine wS_set rfl rfl rfl (a_move rfl rfl) ?_
  refine wS_set rfl rfl rfl (n_rem (b := 64) rfl rfl (by omega)) ?_
  refine wS_set rfl rfl rfl (n_shr rfl rfl (by simp only [IntKind.bits]; omega)) ?_
  refine wS_set rfl rfl rfl (n_and (b := 1) rfl rfl (cap64 (Nat.lt_of_le_of_lt (Nat.div_le_self _ _) hw)) (by simp only [capN]; omega)) ?_
  refine wS_set rfl rfl rfl (n_eql (b := 1) rfl rfl) ?_
  refine wS_set rfl rfl rfl (a_assign rfl rfl) ?_
  refine wO_nil ?_
  refine wC_ret ?_
  exact ⟨_, _, _, _, rfl, rfl, rfl⟩

end Go.Proofs.Ytgjochaacmkpaaa

namespace Go.Proofs.Ytgjochaacmkpaaa
open Go.Dv

theorem fn18 : tab.fn.getD 18 .none = some Try.f18 := by kernel_rfl
theorem fn26 : tab.fn.getD 26 .none = some Try.f26 := by kernel_rfl

def cells (W : List Nat) : List X := (W.map word).map X.v
def natX (k : IntKind) (n : Nat) : X := .v (.lit (.int k (n : Int)))

theorem cells_get {W : List Nat} (hW : isW W) {i : Nat} (hi : i < 4) : (cells W)[0 + i * 1]? = some (.v (word (W.getD i 0))) := cell_get hW hi
theorem cells_len {W : List Nat} (hW : isW W) : (cells W).length = 4 := by simp [cells, hW.1]
theorem cells_set {W : List Nat} (i x : Nat) : (cells W).set (0 + i * 1) (.v (word x)) = cells (W.set i x) := by
  rw [Nat.zero_add, Nat.mul_one]; simp [cells, List.map_set]
theorem cells_vs : ∀ (W : List Nat), xvs (cells W) = some (W.map word)
  | [] => rfl
  | w :: W => by
    have := cells_vs W
    simp only [cells, List.map_cons, xvs, xv] at this ⊢
    rw [this]
theorem cells_load {W : List Nat} (hW : isW W) : xvs (((cells W).drop 0).take 4) = some (W.map word) := by
  rw [List.drop_zero, List.take_of_length_le (by rw [cells_len hW]; omega)]; exact cells_vs W
theorem getD_set {W : List Nat} (hW : isW W) {i x : Nat} (hi : i < 4) (j : Nat) : (W.set i x).getD j 0 = if j = i then x else W.getD j 0 := by
  have := hW.1
  simp only [List.getD_eq_getElem?_getD, List.getElem?_set]
  by_cases h : i = j
  · subst h; simp [this, hi]
  · rw [if_neg h, if_neg fun e : j = i => h e.symm]
theorem isW_set {W : List Nat} (hW : isW W) {i x : Nat} (hi : i < 4) (hx : x < 2 ^ 64) : isW (W.set i x) := by
  refine ⟨by rw [List.length_set]; exact hW.1, fun j => ?_⟩
  rw [getD_set hW hi]; split
  · exact hx
  · exact hW.2 j
theorem store_all {W V : List Nat} (hW : isW W) (hV : isW V) : setRange (cells V) 0 ((W.map word).map X.v) = cells W := by
  obtain ⟨h1, _⟩ := hW
  obtain ⟨h2, _⟩ := hV
  match W, V, h1, h2 with
  | [a, b, c, d], [e, f, g, h], _, _ => rfl
def zeroW : List Nat := [0, 0, 0, 0]
theorem isW_zero : isW zeroW := by
  refine ⟨rfl, fun j => ?_⟩
  have : zeroW.getD j 0 = 0 := by
    match j with
    | 0 => rfl
    | 1 => rfl
    | 2 => rfl
    | 3 => rfl
    | j + 4 => rfl
  omega

theorem le_cap {n : Nat} (h : n < 256) : n ≤ capN .u8 := by simp only [capN]; omega

def mapW (f : Nat → Nat) : List Nat := [f 0, f 1, f 2, f 3]
theorem mapW_get (f : Nat → Nat) {j : Nat} (h : j < 4) : (mapW f).getD j 0 = f j := by
  match j, h with
  | 0, _ => rfl
  | 1, _ => rfl
  | 2, _ => rfl
  | 3, _ => rfl
theorem mapW_congr {f g : Nat → Nat} (h : ∀ j, j < 4 → f j = g j) : mapW f = mapW g := by
  unfold mapW; rw [h 0 (by omega), h 1 (by omega), h 2 (by omega), h 3 (by omega)]
theorem mapW_set (f : Nat → Nat) {i x : Nat} (h : i < 4) : (mapW f).set i x = mapW fun j => if j = i then x else f j := by
  match i, h with
  | 0, _ => rfl
  | 1, _ => rfl
  | 2, _ => rfl
  | 3, _ => rfl
theorem mapW_isW {f : Nat → Nat} (h : ∀ j, j < 4 → f j < 2 ^ 64) : isW (mapW f) := by
  refine ⟨rfl, fun j => ?_⟩
  by_cases hj : j < 4
  · rw [mapW_get f hj]; exact h j hj
  · have : (mapW f).getD j 0 = 0 := by
      rw [List.getD_eq_getElem?_getD, List.getElem?_eq_none (by simp [mapW]; omega)]; rfl
    omega
theorem mapW_eta {W : List Nat} (h : isW W) : W = mapW fun j => W.getD j 0 := by
  obtain ⟨h1, _⟩ := h
  match W, h1 with
  | [a, b, c, d], _ => rfl

def orW (A B : List Nat) (i : Nat) : List Nat := mapW fun j => if j < i then A.getD j 0 ||| B.getD j 0 else A.getD j 0
theorem orW_isW {A B : List Nat} (hA : isW A) (hB : isW B) (i : Nat) : isW (orW A B i) := mapW_isW fun j hj => by
  split
  · exact Nat.or_lt_two_pow (hA.2 j) (hB.2 j)
  · exact hA.2 j

set_option maxRecDepth 100000 in
theorem union_ev {A B : List Nat} (hA : isW A) (hB : isW B) : FnEv tab ext0 18 [.v (setV A), .v (setV B)] [] (.ret [setV (orW A B 4)], []) := by
  refine fn_go _ rfl fn18 rfl rfl rfl ?_
  refine wC_seq ?_
  refine wC_reg ?_
  refine wS_set rfl rfl rfl (a_box2 rfl (hT rfl) rfl (by rw [List.length_map, hA.1]) rfl) ?_
  refine wS_set rfl rfl rfl (a_box2 rfl (hT rfl) rfl (by rw [List.length_map, hB.1]) rfl) ?_
  refine wS_set rfl rfl rfl (a_alloc (hT rfl) rfl rfl) ?_
  refine wO_nil ?_
  refine wC_seq ?_
  refine wC_seq ?_
  refine wC_reg ?_
  refine wS_set rfl rfl rfl (a_move rfl rfl) ?_
  refine wO_nil ?_
  refine wC_block ?_ -- 0
  refine wC_loop (fun m ρ => ∃ i, i + m = 4 ∧ PinSt 19 [(2, .addr 2 1 0), (3, .addr 3 1 0), (4, .addr 4 1 0), (6, natX .i64 i)] [(2, .box 1 (cells (orW A B i))), (3, .box 1 (cells B)), (4, .box 1 (cells zeroW))] ρ) (fun m ρ hi => ?_) 4
    ⟨0, rfl, pinned_mk rfl ⟨rfl, rfl, rfl, rfl, trivial⟩ ⟨?_, rfl, rfl, trivial⟩⟩
  · obtain ⟨i, hm, hi⟩ := hi
    obtain ⟨g, h, rfl⟩ := hi.form
    have hC := orW_isW hA hB i
    refine wC_seq ?_
    refine wC_reg ?_
    refine wS_set rfl rfl rfl (n_lss (a := i) (b := 4) rfl rfl) ?_
    refine wO_nil ?_
    refine wC_seq ?_
    refine wC_cond rfl (fun hc => ?_) (fun hc => ?_)
    ·
      have hlt : i < 4 := by simpa using hc
      refine wC_skip ?_
      refine wC_seq ?_
      refine wC_block ?_ -- 1
      refine wC_seq ?_
      refine wC_reg ?_
      refine wS_set rfl rfl rfl (a_move rfl rfl) ?_
      refine wS_set rfl rfl rfl (a_assign rfl rfl) ?_
      refine wO_nil ?_
      refine wC_regD (by kernel_rfl) ?_
      refine wS_set rfl rfl rfl (a_move rfl rfl) ?_
      refine wS_set rfl rfl rfl (n_indexAddrA (a := i) rfl rfl (hT rfl) rfl (hT rfl) hlt) ?_
      refine wS_set rfl rfl rfl (a_load1 rfl rfl (hT rfl) rfl (cells_get hC hlt)) ?_
      refine wS_set rfl rfl rfl (a_move rfl rfl) ?_
      refine wS_set rfl rfl rfl (n_indexAddrA (a := i) rfl rfl (hT rfl) rfl (hT rfl) hlt) ?_
      refine wS_set rfl rfl rfl (a_load1 rfl rfl (hT rfl) rfl (cells_get hB hlt)) ?_
      refine wS_set rfl rfl rfl (n_or rfl rfl (cap64 (hC.2 i)) (cap64 (hB.2 i))) ?_
      refine wS_set rfl rfl rfl (n_indexAddrA (a := i) rfl rfl (hT rfl) rfl (hT rfl) hlt) ?_
      refine wS_eff rfl rfl (a_store1 rfl rfl rfl rfl rfl (hT rfl) rfl rfl (by rw [cells_len hC]; exact (by omega : 0 + i * 1 < 4))) ?_
      refine wO_nil ⟨rfl, by kernel_rfl, ?_⟩
      refine wC_reg ?_
      refine wS_set rfl rfl rfl (n_add (a := i) (b := 1) rfl rfl (by simp only [capN]; omega)) ?_
      refine wS_set rfl rfl rfl (a_move rfl rfl) ?_
      refine wO_nil ?_
      refine ⟨m - 1, by omega, i + 1, by omega, pinned_mk rfl ⟨rfl, rfl, rfl, rfl, trivial⟩ ⟨?_, rfl, rfl, trivial⟩⟩
      show Ob.box 1 ((cells (orW A B i)).set (0 + i * 1) (.v (word ((orW A B i).getD i 0 ||| B.getD i 0)))) = _
      rw [cells_set]
      unfold orW
      rw [mapW_set _ hlt, mapW_get _ hlt]
      congr 2
      refine mapW_congr fun j hj => ?_
      simp only [Nat.lt_irrefl, if_false]
      by_cases h1 : j = i
      · subst h1; simp
      · simp only [h1, if_false]
        by_cases h2 : j < i
        · rw [if_pos h2, if_pos (by omega)]
        · rw [if_neg h2, if_neg (by omega)]
    ·
      have hlt : ¬ i < 4 := by simpa using hc
      obtain rfl : i = 4 := by omega
      refine wC_exit ?_ -- 0
      refine wC_seq ?_
      refine wC_reg ?_
      refine wS_set rfl rfl rfl (a_load2 rfl rfl (hT rfl) rfl (by rw [cells_len hC]; exact Nat.le_refl _) (cells_load hC)) ?_
      refine wS_eff rfl rfl (a_store2 rfl rfl rfl (hT rfl) rfl (by rw [List.length_map, hC.1]) (by rw [List.length_map, hC.1, cells_len isW_zero]; exact Nat.le_refl _)) ?_
      refine wO_nil ?_
      refine wC_ret ?_
      exact end_cell2 rfl rfl rfl (hT rfl) rfl (by rw [store_all hC isW_zero, cells_len hC]; exact Nat.le_refl _) (by rw [store_all hC isW_zero]; exact cells_load hC)
  · show Ob.box 1 (cells A) = _
    congr 2
    rw [orW]; exact mapW_eta hA

end Go.Proofs.Ytgjochaacmkpaaa

namespace Go.Proofs.Ytgjochaacmkpaaa
open Go.Dv

set_option maxRecDepth 100000 in
theorem ev14 {W : List Nat} {b : Nat} (hb : b < 256) (hW : isW W) : FnEv tab ext0 14 [.v (setV W), .v (byteV b)] [] (.ret [boolV (has W b)], []) := by
  refine fn_go _ rfl fn14 rfl rfl rfl ?_
  have hq : b / 64 < 4 := by omega
  have hw := hW.2 (b / 64)
  refine wC_seq (wC_reg ?_)
  refine wS_set rfl rfl rfl (a_box2 rfl (hT rfl) rfl (by rw [List.length_map, hW.1]) rfl) ?_
  refine wS_set rfl rfl rfl (a_assign rfl rfl) ?_
  refine wO_nil ?_
  refine wC_seq (wC_reg ?_)
  refine wS_set rfl rfl rfl (a_move rfl rfl) ?_
  refine wS_set rfl rfl rfl (n_quo (b := 64) rfl rfl (by omega) (le_cap hb)) ?_
  refine wS_set rfl rfl rfl (n_indexAddrA rfl rfl (hT rfl) rfl (hT rfl) hq) ?_
  refine wS_set rfl rfl rfl (a_load1 rfl rfl (hT rfl) rfl (cell_get hW hq)) ?_
  refine wS_set rfl rfl rfl (a_move rfl rfl) ?_
  refine wS_set rfl rfl rfl (n_rem (b := 64) rfl rfl (by omega)) ?_
  refine wS_set rfl rfl rfl (n_shr rfl rfl (by simp only [IntKind.bits]; omega)) ?_
  refine wS_set rfl rfl rfl (n_and (b := 1) rfl rfl (cap64 (Nat.lt_of_le_of_lt (Nat.div_le_self _ _) hw)) (by simp only [capN]; omega)) ?_
  refine wS_set rfl rfl rfl (n_eql (b := 1) rfl rfl) ?_
  refine wS_set rfl rfl rfl (a_assign rfl rfl) ?_
  refine wO_nil ?_
  refine wC_ret ?_
  exact end_tmp rfl rfl

def withW (W : List Nat) (b : Nat) : List Nat := W.set (b / 64) (W.getD (b / 64) 0 ||| 2 ^ (b % 64))

theorem pow_lt {n : Nat} (h : n < 64) : 2 ^ n < 2 ^ 64 := Nat.pow_lt_pow_right (by omega) h

theorem withW_isW {W : List Nat} (hW : isW W) {b : Nat} (hb : b < 256) : isW (withW W b) :=
  isW_set hW (by omega) (Nat.or_lt_two_pow (hW.2 _) (pow_lt (by omega)))

set_option maxRecDepth 100000 in
theorem ev26 {W : List Nat} {b : Nat} (hb : b < 256) (hW : isW W) : FnEv tab ext0 26 [.v (setV W), .v (byteV b)] [] (.ret [setV (withW W b)], []) := by
  refine fn_go _ rfl fn26 rfl rfl rfl ?_
  have hq : b / 64 < 4 := by omega
  have hr : b % 64 < 64 := by omega
  have hw := hW.2 (b / 64)
  have hp := pow_lt hr
  refine wC_seq ?_
  refine wC_reg ?_
  refine wS_set rfl rfl rfl (a_box2 rfl (hT rfl) rfl (by rw [List.length_map, hW.1]) rfl) ?_
  refine wS_set rfl rfl rfl (a_alloc (hT rfl) rfl rfl) ?_
  refine wO_nil ?_
  refine wC_seq ?_
  refine wC_reg ?_
  refine wS_set rfl rfl rfl (a_move rfl rfl) ?_
  refine wS_set rfl rfl rfl (n_quo (b := 64) rfl rfl (by omega) (le_cap hb)) ?_
  refine wS_set rfl rfl rfl (a_move rfl rfl) ?_
  refine wS_set rfl rfl rfl (n_quo (b := 64) rfl rfl (by omega) (le_cap hb)) ?_
  refine wS_set rfl rfl rfl (n_indexAddrA rfl rfl (hT rfl) rfl (hT rfl) hq) ?_
  refine wS_set rfl rfl rfl (a_load1 rfl rfl (hT rfl) rfl (cell_get hW hq)) ?_
  refine wS_set rfl rfl rfl (a_move rfl rfl) ?_
  refine wS_set rfl rfl rfl (n_rem (b := 64) rfl rfl (by omega)) ?_
  refine wS_set rfl rfl rfl (n_shl (a := 1) rfl rfl (by simp only [IntKind.bits]; omega) (by rw [Nat.one_mul]; exact cap64 hp)) ?_
  refine wS_set rfl rfl rfl (n_or rfl rfl (cap64 hw) (by rw [Nat.one_mul]; exact cap64 hp)) ?_
  refine wS_set rfl rfl rfl (n_indexAddrA rfl rfl (hT rfl) rfl (hT rfl) hq) ?_
  refine wS_eff rfl rfl (a_store1 rfl rfl rfl rfl rfl (hT rfl) rfl rfl (by rw [List.length_map, List.length_map, hW.1]; exact (by omega : 0 + b / 64 * 1 < 4))) ?_
  refine wO_nil ?_
  have he : ((W.map word).map X.v).set (0 + b / 64 * 1) (.v (word (W.getD (b / 64) 0 ||| 1 * 2 ^ (b % 64)))) = cells (withW W b) := by
    rw [Nat.one_mul]; exact cells_set _ _
  have hV := withW_isW hW hb
  refine wC_seq ?_
  refine wC_reg ?_
  refine wS_set rfl rfl rfl (a_load2 (cs := cells (withW W b)) rfl (congrArg (Ob.box 1) he) (hT rfl) rfl (by rw [cells_len hV]; exact Nat.le_refl _) (cells_load hV)) ?_
  refine wS_eff rfl rfl (a_store2 (cs := cells zeroW) rfl rfl rfl (hT rfl) rfl (by rw [List.length_map, hV.1]) (by rw [List.length_map, hV.1, cells_len isW_zero]; exact Nat.le_refl _)) ?_
  refine wO_nil ?_
  refine wC_ret ?_
  exact end_cell2 rfl rfl rfl (hT rfl) rfl (by rw [store_all hV isW_zero, cells_len hV]; exact Nat.le_refl _) (by rw [store_all hV isW_zero]; exact cells_load hV)

end Go.Proofs.Ytgjochaacmkpaaa

namespace Go.Proofs.Ytgjochaacmkpaaa
open Go.Dv

theorem fn19 : tab.fn.getD 19 .none = some Try.f19 := by kernel_rfl
theorem fn21 : tab.fn.getD 21 .none = some Try.f21 := by kernel_rfl
theorem fn23 : tab.fn.getD 23 .none = some Try.f23 := by kernel_rfl

/-- The bytes below n of which p holds. -/
def fillW (p : Nat → Bool) : Nat → List Nat
  | 0 => zeroW
  | n + 1 => if p n then withW (fillW p n) n else fillW p n

theorem fillW_isW (p : Nat → Bool) : ∀ n, n ≤ 256 → isW (fillW p n)
  | 0, _ => isW_zero
  | n + 1, h => by
    unfold fillW
    split
    · exact withW_isW (fillW_isW p n (by omega)) (by omega)
    · exact fillW_isW p n (by omega)

theorem has_is {W : List Nat} {b : Nat} {p : Bool} (hb : b < 256) (hW : isW W) (h : has W b = p) : FnEv tab ext0 14 [.v (setV W), .v (byteV b)] [] (.ret [boolV p], []) := h ▸ ev14 hb hW

theorem fill_t {p : Nat → Bool} {n : Nat} (h : p n = true) : fillW p (n + 1) = withW (fillW p n) n := by show (if p n = true then _ else _) = _; rw [if_pos h]
theorem fill_f {p : Nat → Bool} {n : Nat} (h : p n = false) : fillW p (n + 1) = fillW p n := by show (if p n = true then _ else _) = _; rw [if_neg (by rw [h]; exact fun e => by cases e)]

set_option maxRecDepth 100000 in
theorem ev19 {A B : List Nat} (hA : isW A) (hB : isW B) : FnEv tab ext0 19 [.v (setV A), .v (setV B)] [] (.ret [setV (fillW (fun b => has A b || has B b) 256)], []) := by
  refine fn_go _ rfl fn19 rfl rfl rfl ?_
  refine wC_seq ?_
  refine wC_reg ?_
  refine wS_set rfl rfl rfl (a_box2 rfl (hT rfl) rfl (by rw [List.length_map, hA.1]) rfl) ?_
  refine wS_set rfl rfl rfl (a_box2 rfl (hT rfl) rfl (by rw [List.length_map, hB.1]) rfl) ?_
  refine wS_set rfl rfl rfl (a_alloc (hT rfl) rfl rfl) ?_
  refine wO_nil ?_
  refine wC_seq ?_
  refine wC_reg ?_
  refine wS_set rfl rfl rfl (a_alloc (hT rfl) rfl rfl) ?_
  refine wO_nil ?_
  refine wC_seq ?_
  refine wC_seq ?_
  refine wC_reg ?_
  refine wS_set rfl rfl rfl (a_assign rfl rfl) ?_
  refine wO_nil ?_
  refine wC_block ?_ -- 0
  refine wC_loop (fun m ρ => ∃ i, i + m = 256 ∧ PinSt 26 [(2, .addr 2 1 0), (3, .addr 3 1 0), (4, .addr 4 1 0), (5, .addr 5 1 0), (6, natX .i64 i)]
      [(2, .box 1 (cells A)), (3, .box 1 (cells B)), (4, .box 1 (cells zeroW)), (5, .box 1 (cells (fillW (fun b => has A b || has B b) i)))] ρ) (fun m ρ hi => ?_) 256
    ⟨0, rfl, pinned_mk rfl ⟨rfl, rfl, rfl, rfl, rfl, trivial⟩ ⟨rfl, rfl, rfl, rfl, trivial⟩⟩
  obtain ⟨i, hm, hi⟩ := hi
  obtain ⟨g, h, rfl⟩ := hi.form
  have hC := fillW_isW (fun b => has A b || has B b) i (by omega)
  refine wC_seq ?_
  refine wC_seq ?_
  refine wC_reg ?_
  refine wS_set rfl rfl rfl (a_move rfl rfl) ?_
  refine wS_set rfl rfl rfl (n_lss (a := i) (b := 256) rfl rfl) ?_
  refine wO_nil ?_
  refine wC_cond rfl (fun hc => ?_) (fun hc => ?_)
  ·
    have hlt : i < 256 := by simpa using hc
    refine wC_skip ?_
    refine wC_seq ?_
    refine wC_block ?_ -- 1
    refine wC_seq ?_
    refine wC_reg ?_
    refine wS_set rfl rfl rfl (a_load2 rfl rfl (hT rfl) rfl (by rw [cells_len hA]; exact Nat.le_refl _) (cells_load hA)) ?_
    refine wS_set rfl rfl rfl (a_move rfl rfl) ?_
    refine wS_set rfl rfl rfl (n_conv (a := i) rfl (hT rfl) rfl (hT rfl) rfl (le_cap hlt)) ?_
    cases h1 : has A i with
    | true =>
      refine wS_set rfl rfl rfl (a_call rfl rfl fn14 rfl rfl (has_is hlt hA h1)) ?_
      refine wS_set rfl rfl rfl (a_move rfl rfl) ?_
      refine wS_skip rfl rfl rfl ?_
      refine wS_skip rfl rfl rfl ?_
      refine wS_skip rfl rfl rfl ?_
      refine wS_skip rfl rfl rfl ?_
      refine wS_set rfl rfl rfl (a_pickT rfl rfl) ?_
      refine wO_nil ?_
      refine wC_cond rfl (fun hc => ?_) (fun hc => absurd hc (by decide))
      refine wC_reg ?_
      refine wS_set rfl rfl rfl (a_load2 rfl rfl (hT rfl) rfl (by rw [cells_len hC]; exact Nat.le_refl _) (cells_load hC)) ?_
      refine wS_set rfl rfl rfl (a_move rfl rfl) ?_
      refine wS_set rfl rfl rfl (n_conv (a := i) rfl (hT rfl) rfl (hT rfl) rfl (le_cap hlt)) ?_
      refine wS_set rfl rfl rfl (a_call rfl rfl fn26 rfl rfl (ev26 hlt hC)) ?_
      refine wS_eff rfl rfl (a_store2 rfl rfl rfl (hT rfl) rfl (by rw [List.length_map, (withW_isW hC hlt).1]) (by rw [List.length_map, (withW_isW hC hlt).1, cells_len hC]; exact Nat.le_refl _)) ?_
      refine wO_nil ?_
      refine wC_reg ?_
      refine wS_set rfl rfl rfl (a_move rfl rfl) ?_
      refine wS_set rfl rfl rfl (n_add (a := i) (b := 1) rfl rfl (by simp only [capN]; omega)) ?_
      refine wS_set rfl rfl rfl (a_assign rfl rfl) ?_
      refine wO_nil ?_
      refine ⟨m - 1, by omega, i + 1, by omega, pinned_mk rfl ⟨rfl, rfl, rfl, rfl, rfl, trivial⟩ ⟨rfl, rfl, rfl, ?_, trivial⟩⟩
      rw [fill_t (by simp [h1])]
      exact congrArg (Ob.box 1) (store_all (withW_isW hC hlt) hC)
    | false =>
      refine wS_set rfl rfl rfl (a_call rfl rfl fn14 rfl rfl (has_is hlt hA h1)) ?_
      refine wS_set rfl rfl rfl (a_move rfl rfl) ?_
      refine wS_set rfl rfl rfl (a_load2 rfl rfl (hT rfl) rfl (by rw [cells_len hB]; exact Nat.le_refl _) (cells_load hB)) ?_
      refine wS_set rfl rfl rfl (a_move rfl rfl) ?_
      refine wS_set rfl rfl rfl (n_conv (a := i) rfl (hT rfl) rfl (hT rfl) rfl (le_cap hlt)) ?_
      refine wS_set rfl rfl rfl (a_call rfl rfl fn14 rfl rfl (ev14 hlt hB)) ?_
      refine wS_set rfl rfl rfl (a_pickF rfl rfl) ?_
      refine wO_nil ?_
      refine wC_cond rfl (fun hc => ?_) (fun hc => ?_)
      · refine wC_reg ?_
        refine wS_set rfl rfl rfl (a_load2 rfl rfl (hT rfl) rfl (by rw [cells_len hC]; exact Nat.le_refl _) (cells_load hC)) ?_
        refine wS_set rfl rfl rfl (a_move rfl rfl) ?_
        refine wS_set rfl rfl rfl (n_conv (a := i) rfl (hT rfl) rfl (hT rfl) rfl (le_cap hlt)) ?_
        refine wS_set rfl rfl rfl (a_call rfl rfl fn26 rfl rfl (ev26 hlt hC)) ?_
        refine wS_eff rfl rfl (a_store2 rfl rfl rfl (hT rfl) rfl (by rw [List.length_map, (withW_isW hC hlt).1]) (by rw [List.length_map, (withW_isW hC hlt).1, cells_len hC]; exact Nat.le_refl _)) ?_
        refine wO_nil ?_
        refine wC_reg ?_
        refine wS_set rfl rfl rfl (a_move rfl rfl) ?_
        refine wS_set rfl rfl rfl (n_add (a := i) (b := 1) rfl rfl (by simp only [capN]; omega)) ?_
        refine wS_set rfl rfl rfl (a_assign rfl rfl) ?_
        refine wO_nil ?_
        refine ⟨m - 1, by omega, i + 1, by omega, pinned_mk rfl ⟨rfl, rfl, rfl, rfl, rfl, trivial⟩ ⟨rfl, rfl, rfl, ?_, trivial⟩⟩
        rw [fill_t (by simp [hc])]
        exact congrArg (Ob.box 1) (store_all (withW_isW hC hlt) hC)
      · refine wC_skip ?_
        refine wC_reg ?_
        refine wS_set rfl rfl rfl (a_move rfl rfl) ?_
        refine wS_set rfl rfl rfl (n_add (a := i) (b := 1) rfl rfl (by simp only [capN]; omega)) ?_
        refine wS_set rfl rfl rfl (a_assign rfl rfl) ?_
        refine wO_nil ?_
        refine ⟨m - 1, by omega, i + 1, by omega, pinned_mk rfl ⟨rfl, rfl, rfl, rfl, rfl, trivial⟩ ⟨rfl, rfl, rfl, ?_, trivial⟩⟩
        rw [fill_f (by simp [h1, hc])]; rfl
  ·
    have hlt : ¬ i < 256 := by simpa using hc
    obtain rfl : i = 256 := by omega
    refine wC_exit ?_ -- 0
    refine wC_seq ?_
    refine wC_reg ?_
    refine wS_set rfl rfl rfl (a_load2 rfl rfl (hT rfl) rfl (by rw [cells_len hC]; exact Nat.le_refl _) (cells_load hC)) ?_
    refine wS_eff rfl rfl (a_store2 rfl rfl rfl (hT rfl) rfl (by rw [List.length_map, hC.1]) (by rw [List.length_map, hC.1, cells_len isW_zero]; exact Nat.le_refl _)) ?_
    refine wO_nil ?_
    refine wC_ret ?_
    exact end_cell2 rfl rfl rfl (hT rfl) rfl (by rw [store_all hC isW_zero, cells_len hC]; exact Nat.le_refl _) (by rw [store_all hC isW_zero]; exact cells_load hC)

end Go.Proofs.Ytgjochaacmkpaaa

namespace Go.Proofs.Ytgjochaacmkpaaa
open Go.Dv

theorem fn20 : tab.fn.getD 20 .none = some Try.f20 := by kernel_rfl
theorem fn22 : tab.fn.getD 22 .none = some Try.f22 := by kernel_rfl

def andW (A B : List Nat) (i : Nat) : List Nat := mapW fun j => if j < i then A.getD j 0 &&& B.getD j 0 else A.getD j 0
theorem andW_isW {A B : List Nat} (hA : isW A) (hB : isW B) (i : Nat) : isW (andW A B i) := mapW_isW fun j hj => by
  split
  · exact Nat.lt_of_le_of_lt Nat.and_le_left (hA.2 j)
  · exact hA.2 j
def notW (A : List Nat) (i : Nat) : List Nat := mapW fun j => if j < i then 2 ^ 64 - 1 - A.getD j 0 else A.getD j 0
theorem notW_isW {A : List Nat} (hA : isW A) (i : Nat) : isW (notW A i) := mapW_isW fun j hj => by
  split
  · omega
  · exact hA.2 j

set_option maxRecDepth 100000 in
theorem inter_ev {A B : List Nat} (hA : isW A) (hB : isW B) : FnEv tab ext0 20 [.v (setV A), .v (setV B)] [] (.ret [setV (andW A B 4)], []) := by
  refine fn_go _ rfl fn20 rfl rfl rfl ?_
  refine wC_seq ?_
  refine wC_reg ?_
  refine wS_set rfl rfl rfl (a_box2 rfl (hT rfl) rfl (by rw [List.length_map, hA.1]) rfl) ?_
  refine wS_set rfl rfl rfl (a_box2 rfl (hT rfl) rfl (by rw [List.length_map, hB.1]) rfl) ?_
  refine wS_set rfl rfl rfl (a_alloc (hT rfl) rfl rfl) ?_
  refine wO_nil ?_
  refine wC_seq ?_
  refine wC_seq ?_
  refine wC_reg ?_
  refine wS_set rfl rfl rfl (a_move rfl rfl) ?_
  refine wO_nil ?_
  refine wC_block ?_ -- 0
  refine wC_loop (fun m ρ => ∃ i, i + m = 4 ∧ PinSt 19 [(2, .addr 2 1 0), (3, .addr 3 1 0), (4, .addr 4 1 0), (6, natX .i64 i)] [(2, .box 1 (cells (andW A B i))), (3, .box 1 (cells B)), (4, .box 1 (cells zeroW))] ρ) (fun m ρ hi => ?_) 4
    ⟨0, rfl, pinned_mk rfl ⟨rfl, rfl, rfl, rfl, trivial⟩ ⟨?_, rfl, rfl, trivial⟩⟩
  · obtain ⟨i, hm, hi⟩ := hi
    obtain ⟨g, h, rfl⟩ := hi.form
    have hC := andW_isW hA hB i
    refine wC_seq ?_
    refine wC_reg ?_
    refine wS_set rfl rfl rfl (n_lss (a := i) (b := 4) rfl rfl) ?_
    refine wO_nil ?_
    refine wC_seq ?_
    refine wC_cond rfl (fun hc => ?_) (fun hc => ?_)
    ·
      have hlt : i < 4 := by simpa using hc
      refine wC_skip ?_
      refine wC_seq ?_
      refine wC_block ?_ -- 1
      refine wC_seq ?_
      refine wC_reg ?_
      refine wS_set rfl rfl rfl (a_move rfl rfl) ?_
      refine wS_set rfl rfl rfl (a_assign rfl rfl) ?_
      refine wO_nil ?_
      refine wC_regD (by kernel_rfl) ?_
      refine wS_set rfl rfl rfl (a_move rfl rfl) ?_
      refine wS_set rfl rfl rfl (n_indexAddrA (a := i) rfl rfl (hT rfl) rfl (hT rfl) hlt) ?_
      refine wS_set rfl rfl rfl (a_load1 rfl rfl (hT rfl) rfl (cells_get hC hlt)) ?_
      refine wS_set rfl rfl rfl (a_move rfl rfl) ?_
      refine wS_set rfl rfl rfl (n_indexAddrA (a := i) rfl rfl (hT rfl) rfl (hT rfl) hlt) ?_
      refine wS_set rfl rfl rfl (a_load1 rfl rfl (hT rfl) rfl (cells_get hB hlt)) ?_
      refine wS_set rfl rfl rfl (n_and rfl rfl (cap64 (hC.2 i)) (cap64 (hB.2 i))) ?_
      refine wS_set rfl rfl rfl (n_indexAddrA (a := i) rfl rfl (hT rfl) rfl (hT rfl) hlt) ?_
      refine wS_eff rfl rfl (a_store1 rfl rfl rfl rfl rfl (hT rfl) rfl rfl (by rw [cells_len hC]; exact (by omega : 0 + i * 1 < 4))) ?_
      refine wO_nil ⟨rfl, by kernel_rfl, ?_⟩
      refine wC_reg ?_
      refine wS_set rfl rfl rfl (n_add (a := i) (b := 1) rfl rfl (by simp only [capN]; omega)) ?_
      refine wS_set rfl rfl rfl (a_move rfl rfl) ?_
      refine wO_nil ?_
      refine ⟨m - 1, by omega, i + 1, by omega, pinned_mk rfl ⟨rfl, rfl, rfl, rfl, trivial⟩ ⟨?_, rfl, rfl, trivial⟩⟩
      show Ob.box 1 ((cells (andW A B i)).set (0 + i * 1) (.v (word ((andW A B i).getD i 0 &&& B.getD i 0)))) = _
      rw [cells_set]
      unfold andW
      rw [mapW_set _ hlt, mapW_get _ hlt]
      congr 2
      refine mapW_congr fun j hj => ?_
      simp only [Nat.lt_irrefl, if_false]
      by_cases h1 : j = i
      · subst h1; simp
      · simp only [h1, if_false]
        by_cases h2 : j < i
        · rw [if_pos h2, if_pos (by omega)]
        · rw [if_neg h2, if_neg (by omega)]
    ·
      have hlt : ¬ i < 4 := by simpa using hc
      obtain rfl : i = 4 := by omega
      refine wC_exit ?_ -- 0
      refine wC_seq ?_
      refine wC_reg ?_
      refine wS_set rfl rfl rfl (a_load2 rfl rfl (hT rfl) rfl (by rw [cells_len hC]; exact Nat.le_refl _) (cells_load hC)) ?_
      refine wS_eff rfl rfl (a_store2 rfl rfl rfl (hT rfl) rfl (by rw [List.length_map, hC.1]) (by rw [List.length_map, hC.1, cells_len isW_zero]; exact Nat.le_refl _)) ?_
      refine wO_nil ?_
      refine wC_ret ?_
      exact end_cell2 rfl rfl rfl (hT rfl) rfl (by rw [store_all hC isW_zero, cells_len hC]; exact Nat.le_refl _) (by rw [store_all hC isW_zero]; exact cells_load hC)
  · show Ob.box 1 (cells A) = _
    congr 2
    rw [andW]; exact mapW_eta hA

set_option maxRecDepth 100000 in
theorem compl_ev {A : List Nat} (hA : isW A) : FnEv tab ext0 22 [.v (setV A)] [] (.ret [setV (notW A 4)], []) := by
  refine fn_go _ rfl fn22 rfl rfl rfl ?_
  refine wC_seq ?_
  refine wC_reg ?_
  refine wS_set rfl rfl rfl (a_box2 rfl (hT rfl) rfl (by rw [List.length_map, hA.1]) rfl) ?_
  refine wS_set rfl rfl rfl (a_alloc (hT rfl) rfl rfl) ?_
  refine wO_nil ?_
  refine wC_seq ?_
  refine wC_seq ?_
  refine wC_reg ?_
  refine wS_set rfl rfl rfl (a_move rfl rfl) ?_
  refine wO_nil ?_
  refine wC_block ?_ -- 0
  refine wC_loop (fun m ρ => ∃ i, i + m = 4 ∧ PinSt 15 [(1, .addr 1 1 0), (2, .addr 2 1 0), (4, natX .i64 i)] [(1, .box 1 (cells (notW A i))), (2, .box 1 (cells zeroW))] ρ) (fun m ρ hi => ?_) 4
    ⟨0, rfl, pinned_mk rfl ⟨rfl, rfl, rfl, trivial⟩ ⟨?_, rfl, trivial⟩⟩
  · obtain ⟨i, hm, hi⟩ := hi
    obtain ⟨g, h, rfl⟩ := hi.form
    have hC := notW_isW hA i
    refine wC_seq ?_
    refine wC_reg ?_
    refine wS_set rfl rfl rfl (n_lss (a := i) (b := 4) rfl rfl) ?_
    refine wO_nil ?_
    refine wC_seq ?_
    refine wC_cond rfl (fun hc => ?_) (fun hc => ?_)
    ·
      have hlt : i < 4 := by simpa using hc
      refine wC_skip ?_
      refine wC_seq ?_
      refine wC_block ?_ -- 1
      refine wC_seq ?_
      refine wC_reg ?_
      refine wS_set rfl rfl rfl (a_move rfl rfl) ?_
      refine wS_set rfl rfl rfl (a_assign rfl rfl) ?_
      refine wO_nil ?_
      refine wC_reg ?_
      refine wS_set rfl rfl rfl (a_move rfl rfl) ?_
      refine wS_set rfl rfl rfl (a_move rfl rfl) ?_
      refine wS_set rfl rfl rfl (n_indexAddrA (a := i) rfl rfl (hT rfl) rfl (hT rfl) hlt) ?_
      refine wS_set rfl rfl rfl (a_load1 rfl rfl (hT rfl) rfl (cells_get hC hlt)) ?_
      refine wS_set rfl rfl rfl (n_not64 rfl (hC.2 i)) ?_
      refine wS_set rfl rfl rfl (n_indexAddrA (a := i) rfl rfl (hT rfl) rfl (hT rfl) hlt) ?_
      refine wS_eff rfl rfl (a_store1 rfl rfl rfl rfl rfl (hT rfl) rfl rfl (by rw [cells_len hC]; exact (by omega : 0 + i * 1 < 4))) ?_
      refine wO_nil ?_
      refine wC_reg ?_
      refine wS_set rfl rfl rfl (n_add (a := i) (b := 1) rfl rfl (by simp only [capN]; omega)) ?_
      refine wS_set rfl rfl rfl (a_move rfl rfl) ?_
      refine wO_nil ?_
      refine ⟨m - 1, by omega, i + 1, by omega, pinned_mk rfl ⟨rfl, rfl, rfl, trivial⟩ ⟨?_, rfl, trivial⟩⟩
      show Ob.box 1 ((cells (notW A i)).set (0 + i * 1) (.v (word (2 ^ 64 - 1 - (notW A i).getD i 0)))) = _
      rw [cells_set]
      unfold notW
      rw [mapW_set _ hlt, mapW_get _ hlt]
      congr 2
      refine mapW_congr fun j hj => ?_
      simp only [Nat.lt_irrefl, if_false]
      by_cases h1 : j = i
      · subst h1; simp
      · simp only [h1, if_false]
        by_cases h2 : j < i
        · rw [if_pos h2, if_pos (by omega)]
        · rw [if_neg h2, if_neg (by omega)]
    ·
      have hlt : ¬ i < 4 := by simpa using hc
      obtain rfl : i = 4 := by omega
      refine wC_exit ?_ -- 0
      refine wC_seq ?_
      refine wC_reg ?_
      refine wS_set rfl rfl rfl (a_load2 rfl rfl (hT rfl) rfl (by rw [cells_len hC]; exact Nat.le_refl _) (cells_load hC)) ?_
      refine wS_eff rfl rfl (a_store2 rfl rfl rfl (hT rfl) rfl (by rw [List.length_map, hC.1]) (by rw [List.length_map, hC.1, cells_len isW_zero]; exact Nat.le_refl _)) ?_
      refine wO_nil ?_
      refine wC_ret ?_
      exact end_cell2 rfl rfl rfl (hT rfl) rfl (by rw [store_all hC isW_zero, cells_len hC]; exact Nat.le_refl _) (by rw [store_all hC isW_zero]; exact cells_load hC)
  · show Ob.box 1 (cells A) = _
    congr 2
    rw [notW]; exact mapW_eta hA

set_option maxRecDepth 100000 in
theorem ev21 {A B : List Nat} (hA : isW A) (hB : isW B) : FnEv tab ext0 21 [.v (setV A), .v (setV B)] [] (.ret [setV (fillW (fun b => has A b && has B b) 256)], []) := by
  refine fn_go _ rfl fn21 rfl rfl rfl ?_
  refine wC_seq ?_
  refine wC_reg ?_
  refine wS_set rfl rfl rfl (a_box2 rfl (hT rfl) rfl (by rw [List.length_map, hA.1]) rfl) ?_
  refine wS_set rfl rfl rfl (a_box2 rfl (hT rfl) rfl (by rw [List.length_map, hB.1]) rfl) ?_
  refine wS_set rfl rfl rfl (a_alloc (hT rfl) rfl rfl) ?_
  refine wO_nil ?_
  refine wC_seq ?_
  refine wC_reg ?_
  refine wS_set rfl rfl rfl (a_alloc (hT rfl) rfl rfl) ?_
  refine wO_nil ?_
  refine wC_seq ?_
  refine wC_seq ?_
  refine wC_reg ?_
  refine wS_set rfl rfl rfl (a_assign rfl rfl) ?_
  refine wO_nil ?_
  refine wC_block ?_ -- 0
  refine wC_loop (fun m ρ => ∃ i, i + m = 256 ∧ PinSt 26 [(2, .addr 2 1 0), (3, .addr 3 1 0), (4, .addr 4 1 0), (5, .addr 5 1 0), (6, natX .i64 i)]
      [(2, .box 1 (cells A)), (3, .box 1 (cells B)), (4, .box 1 (cells zeroW)), (5, .box 1 (cells (fillW (fun b => has A b && has B b) i)))] ρ) (fun m ρ hi => ?_) 256
    ⟨0, rfl, pinned_mk rfl ⟨rfl, rfl, rfl, rfl, rfl, trivial⟩ ⟨rfl, rfl, rfl, rfl, trivial⟩⟩
  obtain ⟨i, hm, hi⟩ := hi
  obtain ⟨g, h, rfl⟩ := hi.form
  have hC := fillW_isW (fun b => has A b && has B b) i (by omega)
  refine wC_seq ?_
  refine wC_seq ?_
  refine wC_reg ?_
  refine wS_set rfl rfl rfl (a_move rfl rfl) ?_
  refine wS_set rfl rfl rfl (n_lss (a := i) (b := 256) rfl rfl) ?_
  refine wO_nil ?_
  refine wC_cond rfl (fun hc => ?_) (fun hc => ?_)
  ·
    have hlt : i < 256 := by simpa using hc
    refine wC_skip ?_
    refine wC_seq ?_
    refine wC_block ?_ -- 1
    refine wC_seq ?_
    refine wC_reg ?_
    refine wS_set rfl rfl rfl (a_load2 rfl rfl (hT rfl) rfl (by rw [cells_len hA]; exact Nat.le_refl _) (cells_load hA)) ?_
    refine wS_set rfl rfl rfl (a_move rfl rfl) ?_
    refine wS_set rfl rfl rfl (n_conv (a := i) rfl (hT rfl) rfl (hT rfl) rfl (le_cap hlt)) ?_
    cases h1 : has A i with
    | true =>
      refine wS_set rfl rfl rfl (a_call rfl rfl fn14 rfl rfl (has_is hlt hA h1)) ?_
      refine wS_set rfl rfl rfl (a_move rfl rfl) ?_
      refine wS_set rfl rfl rfl (a_load2 rfl rfl (hT rfl) rfl (by rw [cells_len hB]; exact Nat.le_refl _) (cells_load hB)) ?_
      refine wS_set rfl rfl rfl (a_move rfl rfl) ?_
      refine wS_set rfl rfl rfl (n_conv (a := i) rfl (hT rfl) rfl (hT rfl) rfl (le_cap hlt)) ?_
      refine wS_set rfl rfl rfl (a_call rfl rfl fn14 rfl rfl (ev14 hlt hB)) ?_
      refine wS_set rfl rfl rfl (a_pickT rfl rfl) ?_
      refine wO_nil ?_
      refine wC_cond rfl (fun hc => ?_) (fun hc => ?_)
      · refine wC_reg ?_
        refine wS_set rfl rfl rfl (a_load2 rfl rfl (hT rfl) rfl (by rw [cells_len hC]; exact Nat.le_refl _) (cells_load hC)) ?_
        refine wS_set rfl rfl rfl (a_move rfl rfl) ?_
        refine wS_set rfl rfl rfl (n_conv (a := i) rfl (hT rfl) rfl (hT rfl) rfl (le_cap hlt)) ?_
        refine wS_set rfl rfl rfl (a_call rfl rfl fn26 rfl rfl (ev26 hlt hC)) ?_
        refine wS_eff rfl rfl (a_store2 rfl rfl rfl (hT rfl) rfl (by rw [List.length_map, (withW_isW hC hlt).1]) (by rw [List.length_map, (withW_isW hC hlt).1, cells_len hC]; exact Nat.le_refl _)) ?_
        refine wO_nil ?_
        refine wC_reg ?_
        refine wS_set rfl rfl rfl (a_move rfl rfl) ?_
        refine wS_set rfl rfl rfl (n_add (a := i) (b := 1) rfl rfl (by simp only [capN]; omega)) ?_
        refine wS_set rfl rfl rfl (a_assign rfl rfl) ?_
        refine wO_nil ?_
        refine ⟨m - 1, by omega, i + 1, by omega, pinned_mk rfl ⟨rfl, rfl, rfl, rfl, rfl, trivial⟩ ⟨rfl, rfl, rfl, ?_, trivial⟩⟩
        rw [fill_t (by simp [h1, hc])]
        exact congrArg (Ob.box 1) (store_all (withW_isW hC hlt) hC)
      · refine wC_skip ?_
        refine wC_reg ?_
        refine wS_set rfl rfl rfl (a_move rfl rfl) ?_
        refine wS_set rfl rfl rfl (n_add (a := i) (b := 1) rfl rfl (by simp only [capN]; omega)) ?_
        refine wS_set rfl rfl rfl (a_assign rfl rfl) ?_
        refine wO_nil ?_
        refine ⟨m - 1, by omega, i + 1, by omega, pinned_mk rfl ⟨rfl, rfl, rfl, rfl, rfl, trivial⟩ ⟨rfl, rfl, rfl, ?_, trivial⟩⟩
        rw [fill_f (by simp [hc])]; rfl
    | false =>
      refine wS_set rfl rfl rfl (a_call rfl rfl fn14 rfl rfl (has_is hlt hA h1)) ?_
      refine wS_set rfl rfl rfl (a_move rfl rfl) ?_
      refine wS_skip rfl rfl rfl ?_
      refine wS_skip rfl rfl rfl ?_
      refine wS_skip rfl rfl rfl ?_
      refine wS_skip rfl rfl rfl ?_
      refine wS_set rfl rfl rfl (a_pickF rfl rfl) ?_
      refine wO_nil ?_
      refine wC_cond rfl (fun hc => absurd hc (by decide)) (fun hc => ?_)
      refine wC_skip ?_
      refine wC_reg ?_
      refine wS_set rfl rfl rfl (a_move rfl rfl) ?_
      refine wS_set rfl rfl rfl (n_add (a := i) (b := 1) rfl rfl (by simp only [capN]; omega)) ?_
      refine wS_set rfl rfl rfl (a_assign rfl rfl) ?_
      refine wO_nil ?_
      refine ⟨m - 1, by omega, i + 1, by omega, pinned_mk rfl ⟨rfl, rfl, rfl, rfl, rfl, trivial⟩ ⟨rfl, rfl, rfl, ?_, trivial⟩⟩
      rw [fill_f (by simp [h1])]; rfl
  ·
    have hlt : ¬ i < 256 := by simpa using hc
    obtain rfl : i = 256 := by omega
    refine wC_exit ?_ -- 0
    refine wC_seq ?_
    refine wC_reg ?_
    refine wS_set rfl rfl rfl (a_load2 rfl rfl (hT rfl) rfl (by rw [cells_len hC]; exact Nat.le_refl _) (cells_load hC)) ?_
    refine wS_eff rfl rfl (a_store2 rfl rfl rfl (hT rfl) rfl (by rw [List.length_map, hC.1]) (by rw [List.length_map, hC.1, cells_len isW_zero]; exact Nat.le_refl _)) ?_
    refine wO_nil ?_
    refine wC_ret ?_
    exact end_cell2 rfl rfl rfl (hT rfl) rfl (by rw [store_all hC isW_zero, cells_len hC]; exact Nat.le_refl _) (by rw [store_all hC isW_zero]; exact cells_load hC)

set_option maxRecDepth 100000 in
theorem ev23 {A : List Nat} (hA : isW A) : FnEv tab ext0 23 [.v (setV A)] [] (.ret [setV (fillW (fun b => !has A b) 256)], []) := by
  refine fn_go _ rfl fn23 rfl rfl rfl ?_
  refine wC_seq ?_
  refine wC_reg ?_
  refine wS_set rfl rfl rfl (a_box2 rfl (hT rfl) rfl (by rw [List.length_map, hA.1]) rfl) ?_
  refine wS_set rfl rfl rfl (a_alloc (hT rfl) rfl rfl) ?_
  refine wO_nil ?_
  refine wC_seq ?_
  refine wC_reg ?_
  refine wS_set rfl rfl rfl (a_alloc (hT rfl) rfl rfl) ?_
  refine wO_nil ?_
  refine wC_seq ?_
  refine wC_seq ?_
  refine wC_reg ?_
  refine wS_set rfl rfl rfl (a_assign rfl rfl) ?_
  refine wO_nil ?_
  refine wC_block ?_ -- 0
  refine wC_loop (fun m ρ => ∃ i, i + m = 256 ∧ PinSt 19 [(1, .addr 1 1 0), (2, .addr 2 1 0), (3, .addr 3 1 0), (4, natX .i64 i)]
      [(1, .box 1 (cells A)), (2, .box 1 (cells zeroW)), (3, .box 1 (cells (fillW (fun b => !has A b) i)))] ρ) (fun m ρ hi => ?_) 256
    ⟨0, rfl, pinned_mk rfl ⟨rfl, rfl, rfl, rfl, trivial⟩ ⟨rfl, rfl, rfl, trivial⟩⟩
  obtain ⟨i, hm, hi⟩ := hi
  obtain ⟨g, h, rfl⟩ := hi.form
  have hC := fillW_isW (fun b => !has A b) i (by omega)
  refine wC_seq ?_
  refine wC_seq ?_
  refine wC_reg ?_
  refine wS_set rfl rfl rfl (a_move rfl rfl) ?_
  refine wS_set rfl rfl rfl (n_lss (a := i) (b := 256) rfl rfl) ?_
  refine wO_nil ?_
  refine wC_cond rfl (fun hc => ?_) (fun hc => ?_)
  ·
    have hlt : i < 256 := by simpa using hc
    refine wC_skip ?_
    refine wC_seq ?_
    refine wC_block ?_ -- 1
    refine wC_seq ?_
    refine wC_reg ?_
    refine wS_set rfl rfl rfl (a_load2 rfl rfl (hT rfl) rfl (by rw [cells_len hA]; exact Nat.le_refl _) (cells_load hA)) ?_
    refine wS_set rfl rfl rfl (a_move rfl rfl) ?_
    refine wS_set rfl rfl rfl (n_conv (a := i) rfl (hT rfl) rfl (hT rfl) rfl (le_cap hlt)) ?_
    refine wS_set rfl rfl rfl (a_call rfl rfl fn14 rfl rfl (ev14 hlt hA)) ?_
    refine wS_set rfl rfl rfl (a_un (r := .bool !has A i) rfl rfl) ?_
    refine wO_nil ?_
    refine wC_cond rfl (fun hc => ?_) (fun hc => ?_)
    · refine wC_reg ?_
      refine wS_set rfl rfl rfl (a_load2 rfl rfl (hT rfl) rfl (by rw [cells_len hC]; exact Nat.le_refl _) (cells_load hC)) ?_
      refine wS_set rfl rfl rfl (a_move rfl rfl) ?_
      refine wS_set rfl rfl rfl (n_conv (a := i) rfl (hT rfl) rfl (hT rfl) rfl (le_cap hlt)) ?_
      refine wS_set rfl rfl rfl (a_call rfl rfl fn26 rfl rfl (ev26 hlt hC)) ?_
      refine wS_eff rfl rfl (a_store2 rfl rfl rfl (hT rfl) rfl (by rw [List.length_map, (withW_isW hC hlt).1]) (by rw [List.length_map, (withW_isW hC hlt).1, cells_len hC]; exact Nat.le_refl _)) ?_
      refine wO_nil ?_
      refine wC_reg ?_
      refine wS_set rfl rfl rfl (a_move rfl rfl) ?_
      refine wS_set rfl rfl rfl (n_add (a := i) (b := 1) rfl rfl (by simp only [capN]; omega)) ?_
      refine wS_set rfl rfl rfl (a_assign rfl rfl) ?_
      refine wO_nil ?_
      refine ⟨m - 1, by omega, i + 1, by omega, pinned_mk rfl ⟨rfl, rfl, rfl, rfl, trivial⟩ ⟨rfl, rfl, ?_, trivial⟩⟩
      rw [fill_t hc]
      exact congrArg (Ob.box 1) (store_all (withW_isW hC hlt) hC)
    · refine wC_skip ?_
      refine wC_reg ?_
      refine wS_set rfl rfl rfl (a_move rfl rfl) ?_
      refine wS_set rfl rfl rfl (n_add (a := i) (b := 1) rfl rfl (by simp only [capN]; omega)) ?_
      refine wS_set rfl rfl rfl (a_assign rfl rfl) ?_
      refine wO_nil ?_
      refine ⟨m - 1, by omega, i + 1, by omega, pinned_mk rfl ⟨rfl, rfl, rfl, rfl, trivial⟩ ⟨rfl, rfl, ?_, trivial⟩⟩
      rw [fill_f hc]; rfl
  ·
    have hlt : ¬ i < 256 := by simpa using hc
    obtain rfl : i = 256 := by omega
    refine wC_exit ?_ -- 0
    refine wC_seq ?_
    refine wC_reg ?_
    refine wS_set rfl rfl rfl (a_load2 rfl rfl (hT rfl) rfl (by rw [cells_len hC]; exact Nat.le_refl _) (cells_load hC)) ?_
    refine wS_eff rfl rfl (a_store2 rfl rfl rfl (hT rfl) rfl (by rw [List.length_map, hC.1]) (by rw [List.length_map, hC.1, cells_len isW_zero]; exact Nat.le_refl _)) ?_
    refine wO_nil ?_
    refine wC_ret ?_
    exact end_cell2 rfl rfl rfl (hT rfl) rfl (by rw [store_all hC isW_zero, cells_len hC]; exact Nat.le_refl _) (by rw [store_all hC isW_zero]; exact cells_load hC)

end Go.Proofs.Ytgjochaacmkpaaa

namespace Go.Proofs.Ytgjochaacmkpaaa
open Go.Dv

theorem fn24 : tab.fn.getD 24 .none = some Try.f24 := by kernel_rfl
theorem fn25 : tab.fn.getD 25 .none = some Try.f25 := by kernel_rfl
theorem fn28 : tab.fn.getD 28 .none = some Try.f28 := by kernel_rfl
theorem fn29 : tab.fn.getD 29 .none = some Try.f29 := by kernel_rfl
theorem hT49 : tab.ti 49 = tiOf Try.prog 49 := by kernel_rfl

def s1 (x : Nat) : Nat := (x / 2 ^ 1 &&& 6148914691236517205) + (x &&& 6148914691236517205)
def s2 (x : Nat) : Nat := (x / 2 ^ 2 &&& 3689348814741910323) + (x &&& 3689348814741910323)
def s3 (x : Nat) : Nat := (x / 2 ^ 4 + x) &&& 1085102592571150095
def s4 (x : Nat) : Nat := x + x / 2 ^ 8
def s5 (x : Nat) : Nat := x + x / 2 ^ 16
def s6 (x : Nat) : Nat := x + x / 2 ^ 32
def swar (x : Nat) : Nat := s6 (s5 (s4 (s3 (s2 (s1 x))))) &&& 127

theorem s1_le (x : Nat) : s1 x ≤ 12297829382473034410 := by
  have h1 := @Nat.and_le_right (x / 2 ^ 1) 6148914691236517205
  have h2 := @Nat.and_le_right x 6148914691236517205
  unfold s1; omega
theorem s2_le (x : Nat) : s2 x ≤ 7378697629483820646 := by
  have h1 := @Nat.and_le_right (x / 2 ^ 2) 3689348814741910323
  have h2 := @Nat.and_le_right x 3689348814741910323
  unfold s2; omega
theorem s3_le (x : Nat) : s3 x ≤ 1085102592571150095 := Nat.and_le_right
theorem s4_le {x : Nat} (h : x ≤ 1085102592571150095) : s4 x ≤ 1089341274573381151 := by unfold s4; omega
theorem s5_le {x : Nat} (h : x ≤ 1089341274573381151) : s5 x ≤ 1089357896855742840 := by unfold s5; omega
theorem s6_le {x : Nat} (h : x ≤ 1089357896855742840) : s6 x ≤ 1089357897109379135 := by unfold s6; omega

set_option maxRecDepth 100000 in
theorem ev28 {x : Nat} (hx : x < 2 ^ 64) : FnEv tab ext0 28 [.v (word x)] [] (.ret [.lit (.int .i64 (swar x : Nat))], []) := by
  have b1 := s1_le x
  have b2 := s2_le (s1 x)
  have b3 := s3_le (s2 (s1 x))
  have b4 := s4_le b3
  have b5 := s5_le b4
  have b6 := s6_le b5
  have h1 := @Nat.and_le_right (x / 2 ^ 1) 6148914691236517205
  have h2 := @Nat.and_le_right x 6148914691236517205
  have h3 := @Nat.and_le_right (s1 x / 2 ^ 2) 3689348814741910323
  have h4 := @Nat.and_le_right (s1 x) 3689348814741910323
  refine fn_go _ rfl fn28 rfl rfl rfl ?_
  refine wC_seq ?_
  refine wC_reg ?_
  refine wS_set rfl rfl rfl (a_assign rfl rfl) ?_
  refine wO_nil ?_
  refine wC_seq ?_
  refine wC_reg ?_
  refine wS_set rfl rfl rfl (a_move rfl rfl) ?_
  refine wS_set rfl rfl rfl (n_shr (b := 1) rfl rfl (by simp only [IntKind.bits]; omega)) ?_
  refine wS_set rfl rfl rfl (n_and (b := 6148914691236517205) rfl rfl (by simp only [capN]; omega) (by simp only [capN]; omega)) ?_
  refine wS_set rfl rfl rfl (a_move rfl rfl) ?_
  refine wS_set rfl rfl rfl (n_and (b := 6148914691236517205) rfl rfl (by simp only [capN]; omega) (by simp only [capN]; omega)) ?_
  refine wS_set rfl rfl rfl (n_add rfl rfl (by simp only [capN]; omega)) ?_
  refine wS_set rfl rfl rfl (a_assign (y := .v (word (s1 x))) rfl rfl) ?_
  refine wO_nil ?_
  refine wC_seq ?_
  refine wC_reg ?_
  refine wS_set rfl rfl rfl (a_move rfl rfl) ?_
  refine wS_set rfl rfl rfl (n_shr (b := 2) rfl rfl (by simp only [IntKind.bits]; omega)) ?_
  refine wS_set rfl rfl rfl (n_and (b := 3689348814741910323) rfl rfl (by simp only [capN]; omega) (by simp only [capN]; omega)) ?_
  refine wS_set rfl rfl rfl (a_move rfl rfl) ?_
  refine wS_set rfl rfl rfl (n_and (b := 3689348814741910323) rfl rfl (by simp only [capN]; omega) (by simp only [capN]; omega)) ?_
  refine wS_set rfl rfl rfl (n_add rfl rfl (by simp only [capN]; omega)) ?_
  refine wS_set rfl rfl rfl (a_assign (y := .v (word (s2 (s1 x)))) rfl rfl) ?_
  refine wO_nil ?_
  refine wC_seq ?_
  refine wC_reg ?_
  refine wS_set rfl rfl rfl (a_move rfl rfl) ?_
  refine wS_set rfl rfl rfl (n_shr (b := 4) rfl rfl (by simp only [IntKind.bits]; omega)) ?_
  refine wS_set rfl rfl rfl (a_move rfl rfl) ?_
  refine wS_set rfl rfl rfl (n_add rfl rfl (by simp only [capN]; omega)) ?_
  refine wS_set rfl rfl rfl (n_and (b := 1085102592571150095) rfl rfl (by simp only [capN]; omega) (by simp only [capN]; omega)) ?_
  refine wS_set rfl rfl rfl (a_assign (y := .v (word (s3 (s2 (s1 x))))) rfl rfl) ?_
  refine wO_nil ?_
  refine wC_seq ?_
  refine wC_reg ?_
  refine wS_set rfl rfl rfl (a_move rfl rfl) ?_
  refine wS_set rfl rfl rfl (a_move rfl rfl) ?_
  refine wS_set rfl rfl rfl (n_shr (b := 8) rfl rfl (by simp only [IntKind.bits]; omega)) ?_
  refine wS_set rfl rfl rfl (n_add rfl rfl (by simp only [capN]; omega)) ?_
  refine wS_set rfl rfl rfl (a_assign (y := .v (word (s4 (s3 (s2 (s1 x)))))) rfl rfl) ?_
  refine wO_nil ?_
  refine wC_seq ?_
  refine wC_reg ?_
  refine wS_set rfl rfl rfl (a_move rfl rfl) ?_
  refine wS_set rfl rfl rfl (a_move rfl rfl) ?_
  refine wS_set rfl rfl rfl (n_shr (b := 16) rfl rfl (by simp only [IntKind.bits]; omega)) ?_
  refine wS_set rfl rfl rfl (n_add rfl rfl (by simp only [capN]; omega)) ?_
  refine wS_set rfl rfl rfl (a_assign (y := .v (word (s5 (s4 (s3 (s2 (s1 x))))))) rfl rfl) ?_
  refine wO_nil ?_
  refine wC_seq ?_
  refine wC_reg ?_
  refine wS_set rfl rfl rfl (a_move rfl rfl) ?_
  refine wS_set rfl rfl rfl (a_move rfl rfl) ?_
  refine wS_set rfl rfl rfl (n_shr (b := 32) rfl rfl (by simp only [IntKind.bits]; omega)) ?_
  refine wS_set rfl rfl rfl (n_add rfl rfl (by simp only [capN]; omega)) ?_
  refine wS_set rfl rfl rfl (a_assign (y := .v (word (s6 (s5 (s4 (s3 (s2 (s1 x)))))))) rfl rfl) ?_
  refine wO_nil ?_
  refine wC_seq ?_
  refine wC_reg ?_
  refine wS_set rfl rfl rfl (a_move rfl rfl) ?_
  refine wS_set rfl rfl rfl (n_conv rfl (hT rfl) rfl (hT rfl) rfl (by simp only [capN]; omega)) ?_
  refine wS_set rfl rfl rfl (n_and (b := 127) rfl rfl (by simp only [capN]; omega) (by simp only [capN]; omega)) ?_
  refine wS_set rfl rfl rfl (a_assign rfl rfl) ?_
  refine wO_nil ?_
  refine wC_ret ?_
  exact end_tmp rfl rfl

end Go.Proofs.Ytgjochaacmkpaaa

namespace Go.Proofs.Ytgjochaacmkpaaa
open Go.Dv

theorem word_get {W : List Nat} (hW : isW W) {i : Nat} (hi : i < 4) : (W.map word)[i * 1]? = some (word (W.getD i 0)) := by
  have := hW.1
  rw [Nat.mul_one, List.getElem?_map, List.getElem?_eq_getElem (by omega)]
  simp [List.getD_eq_getElem?_getD, List.getElem?_eq_getElem (show i < W.length by omega)]

def lenW (A : List Nat) : Nat → Nat
  | 0 => 0
  | i + 1 => lenW A i + swar (A.getD i 0)

theorem swar_le (x : Nat) : swar x ≤ 127 := Nat.and_le_right
theorem lenW_le (A : List Nat) : ∀ i, lenW A i ≤ 127 * i
  | 0 => Nat.le_refl _
  | i + 1 => by have := lenW_le A i; have := swar_le (A.getD i 0); simp only [lenW]; omega

set_option maxRecDepth 100000 in
theorem ev24 {A : List Nat} (hA : isW A) : FnEv tab ext0 24 [.v (setV A)] [] (.ret [.lit (.int .i64 (lenW A 4 : Nat))], []) := by
  refine fn_go _ rfl fn24 rfl rfl rfl ?_
  refine wC_seq ?_
  refine wC_reg ?_
  refine wS_set rfl rfl rfl (a_box2 rfl (hT rfl) rfl (by rw [List.length_map, hA.1]) rfl) ?_
  refine wS_set rfl rfl rfl (a_assign rfl rfl) ?_
  refine wO_nil ?_
  refine wC_seq ?_
  refine wC_reg ?_
  refine wS_set rfl rfl rfl (a_assign rfl rfl) ?_
  refine wO_nil ?_
  refine wC_seq ?_
  refine wC_seq ?_
  refine wC_reg ?_
  refine wS_set rfl rfl rfl (a_load2 (cs := cells A) rfl rfl (hT rfl) rfl (by rw [cells_len hA]; exact Nat.le_refl _) (cells_load hA)) ?_
  refine wS_set rfl rfl rfl (a_move rfl rfl) ?_
  refine wO_nil ?_
  refine wC_block ?_ -- 0
  refine wC_loop (fun m ρ => ∃ i, i + m = 4 ∧ PinSt 16 [(3, natX .i64 (lenW A i)), (6, .v (setV A)), (7, natX .i64 i)] [] ρ) (fun m ρ hi => ?_) 4
    ⟨0, rfl, pinned_mk rfl ⟨rfl, rfl, rfl, trivial⟩ trivial⟩
  obtain ⟨i, hm, hi⟩ := hi
  obtain ⟨g, h, rfl⟩ := hi.form
  have hle := lenW_le A i
  refine wC_seq ?_
  refine wC_reg ?_
  refine wS_set rfl rfl rfl (n_lss (a := i) (b := 4) rfl rfl) ?_
  refine wO_nil ?_
  refine wC_seq ?_
  refine wC_cond rfl (fun hc => ?_) (fun hc => ?_)
  ·
    have hlt : i < 4 := by simpa using hc
    have hs := swar_le (A.getD i 0)
    refine wC_skip ?_
    refine wC_seq ?_
    refine wC_block ?_ -- 1
    refine wC_seq ?_
    refine wC_reg ?_
    refine wS_set rfl rfl rfl (n_indexArr1 (a := i) (cs := A.map word) rfl rfl (hT rfl) rfl (hT rfl) rfl hlt (word_get hA hlt)) ?_
    refine wS_set rfl rfl rfl (a_assign rfl rfl) ?_
    refine wO_nil ?_
    refine wC_reg ?_
    refine wS_set rfl rfl rfl (a_move rfl rfl) ?_
    refine wS_set rfl rfl rfl (a_move rfl rfl) ?_
    refine wS_set rfl rfl rfl (a_call rfl rfl fn28 rfl rfl (ev28 (hA.2 i))) ?_
    refine wS_set rfl rfl rfl (n_add (a := lenW A i) (b := swar (A.getD i 0)) rfl rfl (by simp only [capN]; omega)) ?_
    refine wS_set rfl rfl rfl (a_assign rfl rfl) ?_
    refine wO_nil ?_
    refine wC_reg ?_
    refine wS_set rfl rfl rfl (n_add (a := i) (b := 1) rfl rfl (by simp only [capN]; omega)) ?_
    refine wS_set rfl rfl rfl (a_move rfl rfl) ?_
    refine wO_nil ?_
    exact ⟨m - 1, by omega, i + 1, by omega, pinned_mk rfl ⟨rfl, rfl, rfl, trivial⟩ trivial⟩
  ·
    have hlt : ¬ i < 4 := by simpa using hc
    obtain rfl : i = 4 := by omega
    refine wC_exit ?_ -- 0
    refine wC_seq ?_
    refine wC_reg ?_
    refine wS_set rfl rfl rfl (a_move rfl rfl) ?_
    refine wS_set rfl rfl rfl (a_assign rfl rfl) ?_
    refine wO_nil ?_
    refine wC_ret ?_
    exact end_tmp rfl rfl

/-- The elements below n, in order. -/
def listW (A : List Nat) (n : Nat) : List Nat := (List.range n).filter (has A)
def rowB (l : List Nat) : List (List V) := l.map fun b => [byteV b]
theorem listW_le (A : List Nat) (n : Nat) : (listW A n).length ≤ n := by
  have := List.length_filter_le (has A) (List.range n)
  rw [List.length_range] at this
  exact this
theorem listW_t {A : List Nat} {n : Nat} (h : has A n = true) : listW A (n + 1) = listW A n ++ [n] := by
  simp [listW, List.range_succ, List.filter_append, h]
theorem listW_f {A : List Nat} {n : Nat} (h : has A n = false) : listW A (n + 1) = listW A n := by
  simp [listW, List.range_succ, List.filter_append, h]

/-- A row of bytes that grows: nil, or owned. -/
def rowSt (ρ : St) (t s : Nat) (l : List Nat) : Prop :=
  (l = [] ∧ ρ.sl t = .nil 1) ∨ (l ≠ [] ∧ ∃ g, ρ.sl t = .own s g 0 l.length ∧ ρ.ob s = .row g true 1 (rowB l))

theorem rowB_get {A : List Nat} {n : Nat} : rowB (listW A n ++ [n]) = rowB (listW A n) ++ [[byteV n]] := by simp [rowB]

set_option maxRecDepth 100000 in
theorem ev29 {A : List Nat} (hA : isW A) : FnEv tab ext0 29 [.v (setV A)] [] (.ret [.sl 1 (rowB (listW A 256))], []) := by
  refine fn_go _ rfl fn29 rfl rfl rfl ?_
  refine wC_seq ?_
  refine wC_reg ?_
  refine wS_set rfl rfl rfl (a_box2 rfl (hT rfl) rfl (by rw [List.length_map, hA.1]) rfl) ?_
  refine wS_set rfl rfl rfl (a_assignNil rfl (hT rfl) rfl (hT rfl)) ?_
  refine wO_nil ?_
  refine wC_seq ?_
  refine wC_reg ?_
  refine wS_set rfl rfl rfl (a_assignNil rfl (hT rfl) rfl (hT rfl)) ?_
  refine wO_nil ?_
  refine wC_seq ?_
  refine wC_seq ?_
  refine wC_reg ?_
  refine wS_set rfl rfl rfl (a_assign rfl rfl) ?_
  refine wO_nil ?_
  refine wC_block ?_ -- 0
  refine wC_loop (fun m ρ => ∃ i, i + m = 256 ∧ PinSt 19 [(1, .addr 1 1 0), (4, natX .i64 i)] [(1, .box 1 (cells A))] ρ ∧ rowSt ρ 3 17 (listW A i)) (fun m ρ hi => ?_) 256
    ⟨0, rfl, pinned_mk rfl ⟨rfl, rfl, trivial⟩ ⟨rfl, trivial⟩, .inl ⟨rfl, rfl⟩⟩
  obtain ⟨i, hm, hi, hrow⟩ := hi
  obtain ⟨g, h, rfl⟩ := hi.form
  have hle := listW_le A i
  refine wC_seq ?_
  refine wC_seq ?_
  refine wC_reg ?_
  refine wS_set rfl rfl rfl (a_move rfl rfl) ?_
  refine wS_set rfl rfl rfl (n_lss (a := i) (b := 256) rfl rfl) ?_
  refine wO_nil ?_
  refine wC_cond rfl (fun hc => ?_) (fun hc => ?_)
  ·
    have hlt : i < 256 := by simpa using hc
    refine wC_skip ?_
    refine wC_seq ?_
    refine wC_block ?_ -- 1
    refine wC_seq ?_
    refine wC_reg ?_
    refine wS_set rfl rfl rfl (a_load2 (cs := cells A) rfl rfl (hT rfl) rfl (by rw [cells_len hA]; exact Nat.le_refl _) (cells_load hA)) ?_
    refine wS_set rfl rfl rfl (a_move rfl rfl) ?_
    refine wS_set rfl rfl rfl (n_conv (a := i) rfl (hT rfl) rfl (hT rfl) rfl (le_cap hlt)) ?_
    refine wS_set rfl rfl rfl (a_call rfl rfl fn14 rfl rfl (ev14 hlt hA)) ?_
    refine wO_nil ?_
    refine wC_cond rfl (fun hc => ?_) (fun hc => ?_)
    ·
      refine wC_reg ?_
      rcases hrow with ⟨hl, hx⟩ | ⟨hl, gn, hx, ho⟩
      · refine wS_set rfl rfl rfl (a_moveNil hx (hT rfl) rfl (hT rfl)) ?_
        refine wS_set rfl rfl rfl (a_move rfl rfl) ?_
        refine wS_set rfl rfl rfl (n_conv (a := i) rfl (hT rfl) rfl (hT rfl) rfl (le_cap hlt)) ?_
        refine wS_set rfl rfl rfl (a_buildSlice (ys := [byteV i]) rfl (hT rfl) rfl (hT rfl) rfl rfl rfl rfl rfl) ?_
        refine wS_set rfl rfl rfl (a_appendNO (es := [[byteV i]]) rfl rfl rfl rfl rfl (hT rfl) rfl (hT rfl) rfl rfl rfl (by simp [big]) rfl (by simp) rfl) ?_
        refine wS_set rfl rfl rfl (a_assign rfl rfl) ?_
        refine wO_nil ?_
        refine wC_reg ?_
        refine wS_set rfl rfl rfl (a_move rfl rfl) ?_
        refine wS_set rfl rfl rfl (n_add (a := i) (b := 1) rfl rfl (by simp only [capN]; omega)) ?_
        refine wS_set rfl rfl rfl (a_assign rfl rfl) ?_
        refine wO_nil ?_
        refine ⟨m - 1, by omega, i + 1, by omega, pinned_mk rfl ⟨rfl, rfl, trivial⟩ ⟨rfl, trivial⟩, ?_⟩
        rw [listW_t hc, hl]
        exact .inr ⟨by simp, _, rfl, rfl⟩
      · refine wS_set rfl rfl rfl (a_move (y := .own 17 gn 0 (listW A i).length) hx rfl) ?_
        refine wS_set rfl rfl rfl (a_move rfl rfl) ?_
        refine wS_set rfl rfl rfl (n_conv (a := i) rfl (hT rfl) rfl (hT rfl) rfl (le_cap hlt)) ?_
        refine wS_set rfl rfl rfl (a_buildSlice (ys := [byteV i]) rfl (hT rfl) rfl (hT rfl) rfl rfl rfl rfl rfl) ?_
        refine wS_set rfl rfl rfl (a_appendOO (es := [[byteV i]]) (es0 := rowB (listW A i)) (mt := true) (z := 1) rfl ho rfl rfl rfl rfl (hT rfl) rfl (hT rfl) rfl rfl rfl rfl (by simp [rowB]) (by simp only [big, List.length_singleton]; omega) rfl) ?_
        refine wS_set rfl rfl rfl (a_assign rfl rfl) ?_
        refine wO_nil ?_
        refine wC_reg ?_
        refine wS_set rfl rfl rfl (a_move rfl rfl) ?_
        refine wS_set rfl rfl rfl (n_add (a := i) (b := 1) rfl rfl (by simp only [capN]; omega)) ?_
        refine wS_set rfl rfl rfl (a_assign rfl rfl) ?_
        refine wO_nil ?_
        refine ⟨m - 1, by omega, i + 1, by omega, pinned_mk rfl ⟨rfl, rfl, trivial⟩ ⟨rfl, trivial⟩, ?_⟩
        rw [listW_t hc]
        exact .inr ⟨by simp, gn + 1, by rw [List.length_append]; rfl, by rw [rowB_get]; rfl⟩
    ·
      refine wC_skip ?_
      refine wC_reg ?_
      refine wS_set rfl rfl rfl (a_move rfl rfl) ?_
      refine wS_set rfl rfl rfl (n_add (a := i) (b := 1) rfl rfl (by simp only [capN]; omega)) ?_
      refine wS_set rfl rfl rfl (a_assign rfl rfl) ?_
      refine wO_nil ?_
      refine ⟨m - 1, by omega, i + 1, by omega, pinned_mk rfl ⟨rfl, rfl, trivial⟩ ⟨rfl, trivial⟩, ?_⟩
      rw [listW_f hc]
      exact hrow
  ·
    have hlt : ¬ i < 256 := by simpa using hc
    obtain rfl : i = 256 := by omega
    refine wC_exit ?_ -- 0
    refine wC_seq ?_
    refine wC_reg ?_
    rcases hrow with ⟨hl, hx⟩ | ⟨hl, gn, hx, ho⟩
    · refine wS_set rfl rfl rfl (a_moveNil hx (hT rfl) rfl (hT rfl)) ?_
      refine wS_set rfl rfl rfl (a_assignNil rfl (hT rfl) rfl (hT rfl)) ?_
      refine wO_nil ?_
      refine wC_ret ?_
      rw [hl]
      exact end_nil rfl rfl
    · refine wS_set rfl rfl rfl (a_move (y := .own 17 gn 0 (listW A 256).length) hx rfl) ?_
      refine wS_set rfl rfl rfl (a_assign rfl rfl) ?_
      refine wO_nil ?_
      refine wC_ret ?_
      have he : ((rowB (listW A 256)).drop 0).take (listW A 256).length = rowB (listW A 256) := by
        rw [List.drop_zero]; exact List.take_of_length_le (by simp [rowB])
      exact end_ownE rfl rfl ho he

set_option maxRecDepth 100000 in
theorem ev25 {A : List Nat} (hA : isW A) : FnEv tab ext0 25 [.v (setV A)] [] (.ret [.lit (.int .i64 ((listW A 256).length : Nat))], []) := by
  refine fn_go _ rfl fn25 rfl rfl rfl ?_
  refine wC_seq ?_
  refine wC_reg ?_
  refine wS_set rfl rfl rfl (a_box2 rfl (hT rfl) rfl (by rw [List.length_map, hA.1]) rfl) ?_
  refine wS_set rfl rfl rfl (a_assign rfl rfl) ?_
  refine wO_nil ?_
  refine wC_seq ?_
  refine wC_reg ?_
  refine wS_set rfl rfl rfl (a_load2 (cs := cells A) rfl rfl (hT rfl) rfl (by rw [cells_len hA]; exact Nat.le_refl _) (cells_load hA)) ?_
  refine wS_set rfl rfl rfl (a_call rfl rfl fn29 rfl rfl (ev29 hA)) ?_
  refine wS_set rfl rfl rfl (a_lenV (es := rowB (listW A 256)) rfl rfl (hT rfl) rfl) ?_
  refine wS_set rfl rfl rfl (a_assign rfl rfl) ?_
  refine wO_nil ?_
  refine wC_ret ?_
  have : (rowB (listW A 256)).length = (listW A 256).length := by simp [rowB]
  rw [← this]
  exact end_tmp rfl rfl

end Go.Proofs.Ytgjochaacmkpaaa

namespace Go.Proofs.Ytgjochaacmkpaaa
open Go.Dv

theorem fill_const {p : Nat → Bool} {a : Nat} : ∀ {n : Nat}, a ≤ n → (∀ b, a ≤ b → b < n → p b = false) → fillW p n = fillW p a
  | 0, h, _ => by have : a = 0 := by omega
                  subst this; rfl
  | n + 1, h, hp => by
    by_cases e : a = n + 1
    · subst e; rfl
    · rw [fill_f (hp n (by omega) (by omega))]
      exact fill_const (by omega) fun b h1 h2 => hp b h1 (by omega)

def inR (lo hi b : Nat) : Bool := decide (lo ≤ b) && decide (b ≤ hi)
theorem range_0 (lo hi : Nat) : fillW (inR lo hi) lo = zeroW := fill_const (a := 0) (Nat.zero_le _) fun b _ h => by
  have : ¬ lo ≤ b := by omega
  simp [inR, this]
theorem range_end {lo hi i : Nat} (h : ¬ i ≤ hi) (hi' : i ≤ 256) (hl : lo ≤ i) : fillW (inR lo hi) i = fillW (inR lo hi) 256 := (fill_const hi' fun b h1 h2 => by
  have : ¬ b ≤ hi := by omega
  simp [inR, this]).symm
theorem range_t {lo hi i : Nat} (h : i ≤ hi) (hl : lo ≤ i) : fillW (inR lo hi) (i + 1) = withW (fillW (inR lo hi) i) i := fill_t (by simp [inR, h, hl])

set_option maxRecDepth 100000 in
theorem ev12 {lo up : Nat} (hlo : lo < 256) (hup : up < 256) : FnEv tab ext0 12 [.v (byteV lo), .v (byteV up)] [] (.ret [setV (fillW (inR lo up) 256)], []) := by
  refine fn_go _ rfl fn12 rfl rfl rfl ?_
  refine wC_seq ?_
  refine wC_reg ?_
  refine wS_set rfl rfl rfl (a_alloc (hT rfl) rfl rfl) ?_
  refine wO_nil ?_
  refine wC_seq ?_
  refine wC_reg ?_
  refine wS_set rfl rfl rfl (a_alloc (hT rfl) rfl rfl) ?_
  refine wO_nil ?_
  refine wC_seq ?_
  refine wC_seq ?_
  refine wC_reg ?_
  refine wS_set rfl rfl rfl (a_move rfl rfl) ?_
  refine wS_set rfl rfl rfl (n_conv (a := lo) rfl (hT rfl) rfl (hT rfl) rfl (by simp only [capN]; omega)) ?_
  refine wS_set rfl rfl rfl (a_assign rfl rfl) ?_
  refine wO_nil ?_
  refine wC_block ?_ -- 0
  refine wC_loop (fun m ρ => ∃ i, i + m = 256 ∧ lo ≤ i ∧ PinSt 20 [(1, .v (byteV up)), (4, .addr 4 1 0), (5, .addr 5 1 0), (6, natX .i64 i)] [(4, .box 1 (cells zeroW)), (5, .box 1 (cells (fillW (inR lo up) i)))] ρ) (fun m ρ hi => ?_) (256 - lo)
    ⟨lo, by omega, Nat.le_refl _, pinned_mk rfl ⟨rfl, rfl, rfl, rfl, trivial⟩ ⟨rfl, by rw [range_0]; rfl, trivial⟩⟩
  obtain ⟨i, hm, hl, hi⟩ := hi
  obtain ⟨g, h, rfl⟩ := hi.form
  have hC := fillW_isW (inR lo up) i (by omega)
  refine wC_seq ?_
  refine wC_seq ?_
  refine wC_reg ?_
  refine wS_set rfl rfl rfl (a_move rfl rfl) ?_
  refine wS_set rfl rfl rfl (a_move rfl rfl) ?_
  refine wS_set rfl rfl rfl (n_conv (a := up) rfl (hT rfl) rfl (hT rfl) rfl (by simp only [capN]; omega)) ?_
  refine wS_set rfl rfl rfl (n_leq (a := i) (b := up) rfl rfl) ?_
  refine wO_nil ?_
  refine wC_cond rfl (fun hc => ?_) (fun hc => ?_)
  ·
    have hle : i ≤ up := by simpa using hc
    have hlt : i < 256 := by omega
    have hV := withW_isW hC hlt
    refine wC_skip ?_
    refine wC_seq ?_
    refine wC_block ?_ -- 1
    refine wC_reg ?_
    refine wS_set rfl rfl rfl (a_load2 rfl rfl (hT rfl) rfl (by rw [cells_len hC]; exact Nat.le_refl _) (cells_load hC)) ?_
    refine wS_set rfl rfl rfl (a_move rfl rfl) ?_
    refine wS_set rfl rfl rfl (n_conv (a := i) rfl (hT rfl) rfl (hT rfl) rfl (le_cap hlt)) ?_
    refine wS_set rfl rfl rfl (a_call rfl rfl fn26 rfl rfl (ev26 hlt hC)) ?_
    refine wS_eff rfl rfl (a_store2 rfl rfl rfl (hT rfl) rfl (by rw [List.length_map, hV.1]) (by rw [List.length_map, hV.1, cells_len hC]; exact Nat.le_refl _)) ?_
    refine wO_nil ?_
    refine wC_reg ?_
    refine wS_set rfl rfl rfl (a_move rfl rfl) ?_
    refine wS_set rfl rfl rfl (n_add (a := i) (b := 1) rfl rfl (by simp only [capN]; omega)) ?_
    refine wS_set rfl rfl rfl (a_assign rfl rfl) ?_
    refine wO_nil ?_
    refine ⟨m - 1, by omega, i + 1, by omega, by omega, pinned_mk rfl ⟨rfl, rfl, rfl, rfl, trivial⟩ ⟨rfl, ?_, trivial⟩⟩
    rw [range_t hle hl]
    exact congrArg (Ob.box 1) (store_all hV hC)
  ·
    have hlt : ¬ i ≤ up := by simpa using hc
    have hV := range_end hlt (by omega : i ≤ 256) hl
    refine wC_exit ?_ -- 0
    refine wC_seq ?_
    refine wC_reg ?_
    refine wS_set rfl rfl rfl (a_load2 rfl rfl (hT rfl) rfl (by rw [cells_len hC]; exact Nat.le_refl _) (cells_load hC)) ?_
    refine wS_eff rfl rfl (a_store2 rfl rfl rfl (hT rfl) rfl (by rw [List.length_map, hC.1]) (by rw [List.length_map, hC.1, cells_len isW_zero]; exact Nat.le_refl _)) ?_
    refine wO_nil ?_
    refine wC_ret ?_
    rw [← hV]
    exact end_cell2 rfl rfl rfl (hT rfl) rfl (by rw [store_all hC isW_zero, cells_len hC]; exact Nat.le_refl _) (by rw [store_all hC isW_zero]; exact cells_load hC)

set_option maxRecDepth 100000 in
theorem ev10 {lo up : Nat} (hlo : lo < 256) (hup : up < 256) : FnEv tab ext0 10 [.v (byteV lo), .v (byteV up)] [] (.ret [setV (fillW (inR lo up) 256)], []) := by
  refine fn_go _ rfl fn10 rfl rfl rfl ?_
  refine wC_seq ?_
  refine wC_reg ?_
  refine wS_set rfl rfl rfl (a_alloc (hT rfl) rfl rfl) ?_
  refine wO_nil ?_
  refine wC_seq ?_
  refine wC_reg ?_
  refine wS_set rfl rfl rfl (a_alloc (hT rfl) rfl rfl) ?_
  refine wO_nil ?_
  refine wC_seq ?_
  refine wC_seq ?_
  refine wC_reg ?_
  refine wS_set rfl rfl rfl (a_move rfl rfl) ?_
  refine wS_set rfl rfl rfl (n_conv (a := lo) rfl (hT rfl) rfl (hT rfl) rfl (by simp only [capN]; omega)) ?_
  refine wS_set rfl rfl rfl (a_assign rfl rfl) ?_
  refine wO_nil ?_
  refine wC_block ?_ -- 0
  refine wC_loop (fun m ρ => ∃ i, i + m = 256 ∧ lo ≤ i ∧ PinSt 25 [(1, .v (byteV up)), (4, .addr 4 1 0), (5, .addr 5 1 0), (6, natX .i64 i)] [(4, .box 1 (cells zeroW)), (5, .box 1 (cells (fillW (inR lo up) i)))] ρ) (fun m ρ hi => ?_) (256 - lo)
    ⟨lo, by omega, Nat.le_refl _, pinned_mk rfl ⟨rfl, rfl, rfl, rfl, trivial⟩ ⟨rfl, by rw [range_0]; rfl, trivial⟩⟩
  obtain ⟨i, hm, hl, hi⟩ := hi
  obtain ⟨g, h, rfl⟩ := hi.form
  have hC := fillW_isW (inR lo up) i (by omega)
  refine wC_seq ?_
  refine wC_seq ?_
  refine wC_reg ?_
  refine wS_set rfl rfl rfl (a_move rfl rfl) ?_
  refine wS_set rfl rfl rfl (a_move rfl rfl) ?_
  refine wS_set rfl rfl rfl (n_conv (a := up) rfl (hT rfl) rfl (hT rfl) rfl (by simp only [capN]; omega)) ?_
  refine wS_set rfl rfl rfl (n_leq (a := i) (b := up) rfl rfl) ?_
  refine wO_nil ?_
  refine wC_cond rfl (fun hc => ?_) (fun hc => ?_)
  ·
    have hle : i ≤ up := by simpa using hc
    have hlt : i < 256 := by omega
    have hV := withW_isW hC hlt
    refine wC_skip ?_
    refine wC_seq ?_
    refine wC_block ?_ -- 1
    have hq : i / 64 < 4 := by omega
    have hp := pow_lt (n := i % 64) (by omega)
    refine wC_regD (by kernel_rfl) ?_
    refine wS_set rfl rfl rfl (a_move rfl rfl) ?_
    refine wS_set rfl rfl rfl (n_quo (a := i) (b := 64) rfl rfl (by omega) (by simp only [capN]; omega)) ?_
    refine wS_set rfl rfl rfl (n_indexAddrA (a := i / 64) rfl rfl (hT rfl) rfl (hT rfl) hq) ?_
    refine wS_set rfl rfl rfl (a_load1 rfl rfl (hT rfl) rfl (cells_get hC hq)) ?_
    refine wS_set rfl rfl rfl (a_move rfl rfl) ?_
    refine wS_set rfl rfl rfl (n_rem (a := i) (b := 64) rfl rfl (by omega)) ?_
    refine wS_set rfl rfl rfl (n_shl (a := 1) (b := i % 64) rfl rfl (by simp only [IntKind.bits]; omega) (by rw [Nat.one_mul]; exact cap64 hp)) ?_
    refine wS_set rfl rfl rfl (n_or rfl rfl (cap64 (hC.2 _)) (by rw [Nat.one_mul]; exact cap64 hp)) ?_
    refine wS_set rfl rfl rfl (n_indexAddrA (a := i / 64) rfl rfl (hT rfl) rfl (hT rfl) hq) ?_
    refine wS_eff rfl rfl (a_store1 rfl rfl rfl rfl rfl (hT rfl) rfl rfl (by rw [cells_len hC]; exact (by omega : 0 + i / 64 * 1 < 4))) ?_
    refine wO_nil ⟨rfl, by kernel_rfl, ?_⟩
    refine wC_reg ?_
    refine wS_set rfl rfl rfl (a_move rfl rfl) ?_
    refine wS_set rfl rfl rfl (n_add (a := i) (b := 1) rfl rfl (by simp only [capN]; omega)) ?_
    refine wS_set rfl rfl rfl (a_assign rfl rfl) ?_
    refine wO_nil ?_
    refine ⟨m - 1, by omega, i + 1, by omega, by omega, pinned_mk rfl ⟨rfl, rfl, rfl, rfl, trivial⟩ ⟨rfl, ?_, trivial⟩⟩
    rw [range_t hle hl]
    show Ob.box 1 ((cells (fillW (inR lo up) i)).set (0 + i / 64 * 1) (.v (word ((fillW (inR lo up) i).getD (i / 64) 0 ||| 1 * 2 ^ (i % 64))))) = _
    rw [cells_set, Nat.one_mul]; rfl
  ·
    have hlt : ¬ i ≤ up := by simpa using hc
    have hV := range_end hlt (by omega : i ≤ 256) hl
    refine wC_exit ?_ -- 0
    refine wC_seq ?_
    refine wC_reg ?_
    refine wS_set rfl rfl rfl (a_load2 rfl rfl (hT rfl) rfl (by rw [cells_len hC]; exact Nat.le_refl _) (cells_load hC)) ?_
    refine wS_eff rfl rfl (a_store2 rfl rfl rfl (hT rfl) rfl (by rw [List.length_map, hC.1]) (by rw [List.length_map, hC.1, cells_len isW_zero]; exact Nat.le_refl _)) ?_
    refine wO_nil ?_
    refine wC_ret ?_
    rw [← hV]
    exact end_cell2 rfl rfl rfl (hT rfl) rfl (by rw [store_all hC isW_zero, cells_len hC]; exact Nat.le_refl _) (by rw [store_all hC isW_zero]; exact cells_load hC)

end Go.Proofs.Ytgjochaacmkpaaa

namespace Go.Proofs.Ytgjochaacmkpaaa
open Go.Dv

def byteAt (s : ByteArray) (i : Nat) : UInt8 := s[i]?.getD 0
theorem byteAt_get {s : ByteArray} {i : Nat} (h : i < s.size) : s[i]? = some (byteAt s i) := by
  unfold byteAt; rw [getElem?_pos s i h]; rfl
theorem byteAt_lt (s : ByteArray) (i : Nat) : (byteAt s i).toNat < 256 := UInt8.toNat_lt _
def ofW (s : ByteArray) : Nat → List Nat
  | 0 => zeroW
  | i + 1 => withW (ofW s i) (byteAt s i).toNat
theorem ofW_isW (s : ByteArray) : ∀ i, isW (ofW s i)
  | 0 => isW_zero
  | i + 1 => withW_isW (ofW_isW s i) (byteAt_lt s i)

set_option maxRecDepth 100000 in
theorem ev11 {s : ByteArray} (hs : s.size < 2 ^ 62) : FnEv tab ext0 11 [.v (.lit (.string s))] [] (.ret [setV (ofW s s.size)], []) := by
  refine fn_go _ rfl fn11 rfl rfl rfl ?_
  refine wC_seq ?_
  refine wC_reg ?_
  refine wS_set rfl rfl rfl (a_alloc (hT rfl) rfl rfl) ?_
  refine wO_nil ?_
  refine wC_seq ?_
  refine wC_reg ?_
  refine wS_set rfl rfl rfl (a_alloc (hT rfl) rfl rfl) ?_
  refine wO_nil ?_
  refine wC_seq ?_
  refine wC_seq ?_
  refine wC_reg ?_
  refine wS_set rfl rfl rfl (a_assign rfl rfl) ?_
  refine wO_nil ?_
  refine wC_block ?_ -- 0
  refine wC_loop (fun m ρ => ∃ i, i + m = s.size ∧ PinSt 17 [(0, .v (.lit (.string s))), (2, .addr 2 1 0), (3, .addr 3 1 0), (4, natX .i64 i)] [(2, .box 1 (cells zeroW)), (3, .box 1 (cells (ofW s i)))] ρ) (fun m ρ hi => ?_) s.size
    ⟨0, by omega, pinned_mk rfl ⟨rfl, rfl, rfl, rfl, trivial⟩ ⟨rfl, rfl, trivial⟩⟩
  obtain ⟨i, hm, hi⟩ := hi
  obtain ⟨g, h, rfl⟩ := hi.form
  have hC := ofW_isW s i
  refine wC_seq ?_
  refine wC_seq ?_
  refine wC_reg ?_
  refine wS_set rfl rfl rfl (a_move rfl rfl) ?_
  refine wS_set rfl rfl rfl (a_move rfl rfl) ?_
  refine wS_set rfl rfl rfl (a_lenStr (sb := s) rfl rfl (hT rfl) rfl) ?_
  refine wS_set rfl rfl rfl (n_lss (a := i) (b := s.size) rfl rfl) ?_
  refine wO_nil ?_
  refine wC_cond rfl (fun hc => ?_) (fun hc => ?_)
  ·
    have hlt : i < s.size := by simpa using hc
    have hb := byteAt_lt s i
    have hV := withW_isW hC hb
    refine wC_skip ?_
    refine wC_seq ?_
    refine wC_block ?_ -- 1
    refine wC_regD (by kernel_rfl) ?_
    refine wS_set rfl rfl rfl (a_load2 rfl rfl (hT rfl) rfl (by rw [cells_len hC]; exact Nat.le_refl _) (cells_load hC)) ?_
    refine wS_set rfl rfl rfl (a_move rfl rfl) ?_
    refine wS_set rfl rfl rfl (a_move rfl rfl) ?_
    refine wS_set rfl rfl rfl (n_indexStr (sb := s) (a := i) rfl rfl (hT rfl) rfl (byteAt_get hlt)) ?_
    refine wS_set rfl rfl rfl (a_call rfl rfl fn26 rfl rfl (ev26 hb hC)) ?_
    refine wS_eff rfl rfl (a_store2 rfl rfl rfl (hT rfl) rfl (by rw [List.length_map, hV.1]) (by rw [List.length_map, hV.1, cells_len hC]; exact Nat.le_refl _)) ?_
    refine wO_nil ⟨rfl, by kernel_rfl, ?_⟩
    refine wC_reg ?_
    refine wS_set rfl rfl rfl (a_move rfl rfl) ?_
    refine wS_set rfl rfl rfl (n_add (a := i) (b := 1) rfl rfl (by simp only [capN]; omega)) ?_
    refine wS_set rfl rfl rfl (a_assign rfl rfl) ?_
    refine wO_nil ?_
    refine ⟨m - 1, by omega, i + 1, by omega, pinned_mk rfl ⟨rfl, rfl, rfl, rfl, trivial⟩ ⟨rfl, ?_, trivial⟩⟩
    exact congrArg (Ob.box 1) (store_all hV hC)
  ·
    have hlt : ¬ i < s.size := by simpa using hc
    obtain rfl : i = s.size := by omega
    refine wC_exit ?_ -- 0
    refine wC_seq ?_
    refine wC_reg ?_
    refine wS_set rfl rfl rfl (a_load2 rfl rfl (hT rfl) rfl (by rw [cells_len hC]; exact Nat.le_refl _) (cells_load hC)) ?_
    refine wS_eff rfl rfl (a_store2 rfl rfl rfl (hT rfl) rfl (by rw [List.length_map, hC.1]) (by rw [List.length_map, hC.1, cells_len isW_zero]; exact Nat.le_refl _)) ?_
    refine wO_nil ?_
    refine wC_ret ?_
    exact end_cell2 rfl rfl rfl (hT rfl) rfl (by rw [store_all hC isW_zero, cells_len hC]; exact Nat.le_refl _) (by rw [store_all hC isW_zero]; exact cells_load hC)

set_option maxRecDepth 100000 in
theorem ev9 {s : ByteArray} (hs : s.size < 2 ^ 62) : FnEv tab ext0 9 [.v (.lit (.string s))] [] (.ret [setV (ofW s s.size)], []) := by
  refine fn_go _ rfl fn9 rfl rfl rfl ?_
  refine wC_seq ?_
  refine wC_reg ?_
  refine wS_set rfl rfl rfl (a_alloc (hT rfl) rfl rfl) ?_
  refine wO_nil ?_
  refine wC_seq ?_
  refine wC_reg ?_
  refine wS_set rfl rfl rfl (a_alloc (hT rfl) rfl rfl) ?_
  refine wO_nil ?_
  refine wC_seq ?_
  refine wC_seq ?_
  refine wC_reg ?_
  refine wS_set rfl rfl rfl (a_move rfl rfl) ?_
  refine wS_set rfl rfl rfl (a_lenStr (sb := s) rfl rfl (hT rfl) rfl) ?_
  refine wS_set rfl rfl rfl (a_move rfl rfl) ?_
  refine wO_nil ?_
  refine wC_block ?_ -- 0
  refine wC_loop (fun m ρ => ∃ i, i + m = s.size ∧ PinSt 25 [(0, .v (.lit (.string s))), (2, .addr 2 1 0), (3, .addr 3 1 0), (6, natX .i64 s.size), (7, natX .i64 i)] [(2, .box 1 (cells zeroW)), (3, .box 1 (cells (ofW s i)))] ρ) (fun m ρ hi => ?_) s.size
    ⟨0, by omega, pinned_mk rfl ⟨rfl, rfl, rfl, rfl, rfl, trivial⟩ ⟨rfl, rfl, trivial⟩⟩
  obtain ⟨i, hm, hi⟩ := hi
  obtain ⟨g, h, rfl⟩ := hi.form
  have hC := ofW_isW s i
  refine wC_seq ?_
  refine wC_reg ?_
  refine wS_set rfl rfl rfl (n_lss (a := i) (b := s.size) rfl rfl) ?_
  refine wO_nil ?_
  refine wC_seq ?_
  refine wC_cond rfl (fun hc => ?_) (fun hc => ?_)
  ·
    have hlt : i < s.size := by simpa using hc
    have hb := byteAt_lt s i
    have hV := withW_isW hC hb
    refine wC_skip ?_
    refine wC_seq ?_
    refine wC_block ?_ -- 1
    have hq : (byteAt s i).toNat / 64 < 4 := by omega
    have hp := pow_lt (n := (byteAt s i).toNat % 64) (by omega)
    refine wC_seq ?_
    refine wC_reg ?_
    refine wS_set rfl rfl rfl (a_move rfl rfl) ?_
    refine wS_set rfl rfl rfl (a_assign rfl rfl) ?_
    refine wO_nil ?_
    refine wC_regD (by kernel_rfl) ?_
    refine wS_set rfl rfl rfl (a_move rfl rfl) ?_
    refine wS_set rfl rfl rfl (a_move rfl rfl) ?_
    refine wS_set rfl rfl rfl (n_indexStr (sb := s) (a := i) rfl rfl (hT rfl) rfl (byteAt_get hlt)) ?_
    refine wS_set rfl rfl rfl (n_quo (a := (byteAt s i).toNat) (b := 64) rfl rfl (by omega) (le_cap hb)) ?_
    refine wS_set rfl rfl rfl (n_indexAddrA (a := (byteAt s i).toNat / 64) rfl rfl (hT rfl) rfl (hT rfl) hq) ?_
    refine wS_set rfl rfl rfl (a_load1 rfl rfl (hT rfl) rfl (cells_get hC hq)) ?_
    refine wS_set rfl rfl rfl (a_move rfl rfl) ?_
    refine wS_set rfl rfl rfl (a_move rfl rfl) ?_
    refine wS_set rfl rfl rfl (n_indexStr (sb := s) (a := i) rfl rfl (hT rfl) rfl (byteAt_get hlt)) ?_
    refine wS_set rfl rfl rfl (n_rem (a := (byteAt s i).toNat) (b := 64) rfl rfl (by omega)) ?_
    refine wS_set rfl rfl rfl (n_shl (a := 1) (b := (byteAt s i).toNat % 64) rfl rfl (by simp only [IntKind.bits]; omega) (by rw [Nat.one_mul]; exact cap64 hp)) ?_
    refine wS_set rfl rfl rfl (n_or rfl rfl (cap64 (hC.2 _)) (by rw [Nat.one_mul]; exact cap64 hp)) ?_
    refine wS_set rfl rfl rfl (n_indexAddrA (a := (byteAt s i).toNat / 64) rfl rfl (hT rfl) rfl (hT rfl) hq) ?_
    refine wS_eff rfl rfl (a_store1 rfl rfl rfl rfl rfl (hT rfl) rfl rfl (by rw [cells_len hC]; exact (by omega : 0 + (byteAt s i).toNat / 64 * 1 < 4))) ?_
    refine wO_nil ⟨rfl, by kernel_rfl, ?_⟩
    refine wC_reg ?_
    refine wS_set rfl rfl rfl (n_add (a := i) (b := 1) rfl rfl (by simp only [capN]; omega)) ?_
    refine wS_set rfl rfl rfl (a_move rfl rfl) ?_
    refine wO_nil ?_
    refine ⟨m - 1, by omega, i + 1, by omega, pinned_mk rfl ⟨rfl, rfl, rfl, rfl, rfl, trivial⟩ ⟨rfl, ?_, trivial⟩⟩
    show Ob.box 1 ((cells (ofW s i)).set (0 + (byteAt s i).toNat / 64 * 1) (.v (word ((ofW s i).getD ((byteAt s i).toNat / 64) 0 ||| 1 * 2 ^ ((byteAt s i).toNat % 64))))) = _
    rw [cells_set, Nat.one_mul]; rfl
  ·
    have hlt : ¬ i < s.size := by simpa using hc
    obtain rfl : i = s.size := by omega
    refine wC_exit ?_ -- 0
    refine wC_seq ?_
    refine wC_reg ?_
    refine wS_set rfl rfl rfl (a_load2 rfl rfl (hT rfl) rfl (by rw [cells_len hC]; exact Nat.le_refl _) (cells_load hC)) ?_
    refine wS_eff rfl rfl (a_store2 rfl rfl rfl (hT rfl) rfl (by rw [List.length_map, hC.1]) (by rw [List.length_map, hC.1, cells_len isW_zero]; exact Nat.le_refl _)) ?_
    refine wO_nil ?_
    refine wC_ret ?_
    exact end_cell2 rfl rfl rfl (hT rfl) rfl (by rw [store_all hC isW_zero, cells_len hC]; exact Nat.le_refl _) (by rw [store_all hC isW_zero]; exact cells_load hC)

end Go.Proofs.Ytgjochaacmkpaaa
