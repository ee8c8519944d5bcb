/-
  What is proved here: the table of the program for the evaluator; the examples of the document, worked out by the kernel; the distance of two strings of at most 1000 bytes. Conditions: those that stand at each theorem.
-/
import Derived.Test.YtmmgcodoimpklaaEvC
import Derived.Test.YtmmgcodoimpklaaRows

namespace Go.Proofs.Ytmmgcodoimpklaa
open Go.Dv

noncomputable def tab : Lite := (mkLite Try.prog [30] [(35, [1, 1, 3, 1]), (40, [1, 1]), (51, [1, 1, 1, 1])] [43]).withMats [42] [(41, some 24)]

theorem closed : closedB Try.prog = true := by kernel_rfl

theorem tabOk : LiteOk Try.prog tab := by
  refine LiteOk.withMats (mk_ok Try.checked.mixed closed ?_ ?_) _ _
  · intro t ks h xs ys us vs b w he h1 h2 l1 l2 r1 r2
    have guard : Try.prog.eqGuardType Try.prog.depth 35 = false ∧ Try.prog.eqGuardType Try.prog.depth 40 = false ∧ Try.prog.eqGuardType Try.prog.depth 51 = false := ⟨by kernel_rfl, by kernel_rfl, by kernel_rfl⟩
    simp only [List.lookup] at h
    split at h
    · rename_i hh
      obtain rfl : t = 35 := by simpa using hh
      cases h
      exact ⟨equal_flat (by kernel_rfl) (by kernel_rfl) (by kernel_rfl) xs ys us vs b w he h1 h2 l1 l2 r1 r2, guard.1⟩
    · split at h
      · rename_i hh
        obtain rfl : t = 40 := by simpa using hh
        cases h
        exact ⟨equal_flat (by kernel_rfl) (by kernel_rfl) (by kernel_rfl) xs ys us vs b w he h1 h2 l1 l2 r1 r2, guard.2.1⟩
      · split at h
        · rename_i hh
          obtain rfl : t = 51 := by simpa using hh
          cases h
          exact ⟨equal_ints (n := 4) (i := Try.t49) Try.underlying51 Try.underlying49 Try.type49 rfl xs ys us vs b w he h1 h2 l1 l2 r1 r2, guard.2.2⟩
        · cases h
  · intro f hf
    obtain rfl : f = 43 := by simpa using hf
    exact ⟨Try.f43, Try.func43, by kernel_rfl, by kernel_rfl, by kernel_rfl, by kernel_rfl⟩

noncomputable def ext : Ext := deferExt tab [17]
theorem extOk : ExtOk Try.prog tab ext := deferExt_ok tabOk [17]
theorem extLe : ExtLe ext := deferExt_le tab [17]

end Go.Proofs.Ytmmgcodoimpklaa

namespace Go.Proofs.Ytmmgcodoimpklaa
open Go.Dv

/-- What the table holds of the types that are met. -/
def tb : Nat → Option TI
  | 3 => some { und := .int .i64, size := 1, bytes := 8, kd := 1, zero := some [natX .i64 0] }
  | 4 => some { und := .bool, size := 1, bytes := 1, kd := 1, zero := some [.v (.lit (.bool false))] }
  | 5 => some { und := .int .u8, size := 1, bytes := 1, kd := 1, zero := some [natX .u8 0] }
  | 9 => some { und := .string, size := 1, bytes := 16, kd := 1, zero := some [.v (.lit (.string ⟨#[]⟩))] }
  | 25 => some { und := .slice 5, size := 1, bytes := 24, kd := 1, zero := some [.nil 1] }
  | 41 => some { und := .slice 3, size := 1, bytes := 24, kd := 1, zero := some [.nil 1] }
  | 42 => some { und := .slice 41, size := 1, bytes := 24, kd := 1, zero := some [.nil 1] }
  | _ => .none
theorem hT {t : Nat} {T : TI} (h : tb t = some T) : tab.ti t = T := by
  unfold tb at h
  split at h <;> first | (cases h; done) | (cases h; kernel_rfl)

theorem fn3 : tab.fn.getD 3 .none = some Try.f3 := by kernel_rfl
theorem fn4 : tab.fn.getD 4 .none = some Try.f4 := by kernel_rfl
theorem fn5 : tab.fn.getD 5 .none = some Try.f5 := by kernel_rfl
theorem fn6 : tab.fn.getD 6 .none = some Try.f6 := by kernel_rfl
theorem fn7 : tab.fn.getD 7 .none = some Try.f7 := by kernel_rfl
theorem fn8 : tab.fn.getD 8 .none = some Try.f8 := by kernel_rfl
theorem no3 : ext 3 = .none := by kernel_rfl
theorem no4 : ext 4 = .none := by kernel_rfl
theorem no5 : ext 5 = .none := by kernel_rfl
theorem no7 : ext 7 = .none := by kernel_rfl
theorem no8 : ext 8 = .none := by kernel_rfl

set_option maxRecDepth 100000 in
theorem ev6 : FnEv tab ext 6 [] [] (.ret [boolV true], []) := FnEv.work extLe 200 (by kernel_rfl)

end Go.Proofs.Ytmmgcodoimpklaa

namespace Go.Proofs.Ytmmgcodoimpklaa
open Go.Dv

/-- A part of a code. -/
def nav : Code → List Nat → Code
  | c, [] => c
  | .seq a _, 0 :: p => nav a p
  | .seq _ b, _ :: p => nav b p
  | .block _ c, _ :: p => nav c p
  | .loop c, _ :: p => nav c p
  | c, _ :: _ => c
noncomputable def body7 : Code := Try.f7.body.getD .skip
noncomputable def codeIn : Code := nav body7 [1, 1, 1, 0, 1, 0, 0, 1, 0, 0, 1, 1, 1, 0, 0, 1, 0, 0]

def at8 (s : ByteArray) (i : Nat) : Nat := (byteAt s i).toNat
def isRow (M : Nat) (l : List Nat) (f : Nat → Nat) (n : Nat) : Prop := l.length = M ∧ ∀ k, k < n → l.getD k 0 = f k
theorem isRow_set {M n : Nat} {l : List Nat} {f : Nat → Nat} (h : isRow M l f n) (hn : n < M) {x : Nat} (hx : x = f n) : isRow M (l.set n x) f (n + 1) := by
  refine ⟨by rw [List.length_set]; exact h.1, fun k hk => ?_⟩
  simp only [List.getD_eq_getElem?_getD, List.getElem?_set]
  by_cases e : n = k
  · subst e; simp [h.1, hn, hx]
  · rw [if_neg e]
    have := h.2 k (by omega)
    rwa [List.getD_eq_getElem?_getD] at this
theorem getD_set_self {l : List Nat} {n x : Nat} (h : n < l.length) : (l.set n x).getD n 0 = x := by
  simp [List.getD_eq_getElem?_getD, List.getElem?_set, h]

set_option maxRecDepth 100000 in
theorem inner0 {a b : ByteArray} (hla : a.size ≤ 1000) (hlb : b.size ≤ 1000) {i j : Nat} (hi : i < a.size) (hj : j < b.size) {A R C : List Nat} (hA : A.length = b.size + 1) (hA2 : 1 ≤ i → isRow (b.size + 1) A (osa (at8 a) (at8 b) (i - 1)) (b.size + 1))
    (hR : isRow (b.size + 1) R (osa (at8 a) (at8 b) i) (b.size + 1)) (hC : isRow (b.size + 1) C (osa (at8 a) (at8 b) (i + 1)) (j + 1)) {Q : Ex → St → Prop} {cd : Code} {ρ0 : St}
    (hρ0 : PinSt 131 [(0, .v (.lit (.string a))), (1, .v (.lit (.string b))), (5, .own 15 1 0 (b.size + 1)), (6, .own 19 1 0 (b.size + 1)), (7, .own 23 1 0 (b.size + 1)), (9, natX .i64 (i + 1)), (10, natX .i64 (j + 1))] [(15, .row 1 true 1 (rowI A)), (19, .row 1 true 1 (rowI R)), (23, .row 1 true 1 (rowI C))] ρ0) (hcd : cd = codeIn)
    (hq : ∀ C' ρ, isRow (b.size + 1) C' (osa (at8 a) (at8 b) (i + 1)) (j + 1 + 1) → PinSt 131 [(0, .v (.lit (.string a))), (1, .v (.lit (.string b))), (5, .own 15 1 0 (b.size + 1)), (6, .own 19 1 0 (b.size + 1)), (7, .own 23 1 0 (b.size + 1)), (9, natX .i64 (i + 1)), (10, natX .i64 (j + 1))] [(15, .row 1 true 1 (rowI A)), (19, .row 1 true 1 (rowI R)), (23, .row 1 true 1 (rowI C'))] ρ → Q .normal ρ) :
    wpC tab ext cd ρ0 Q := by
  subst hcd
  replace hρ0 := hρ0.form
  obtain ⟨g, h, rfl⟩ := hρ0
  have hCl := hC.1
  have hRl := hR.1
  have l1 := osa_le (a := at8 a) (b := at8 b) (i + j) i j (Nat.le_refl _)
  have l2 := osa_le (a := at8 a) (b := at8 b) (i + j + 1) i (j + 1) (by omega)
  have l3 := osa_le (a := at8 a) (b := at8 b) (i + j + 1) (i + 1) j (by omega)
  have l4 := osa_le (a := at8 a) (b := at8 b) (i + j) (i - 1) (j - 1) (by omega)
  have r1 : R.getD j 0 = osa (at8 a) (at8 b) i j := hR.2 j (by omega)
  have r2 : R.getD (j + 1) 0 = osa (at8 a) (at8 b) i (j + 1) := hR.2 (j + 1) (by omega)
  have r3 : C.getD j 0 = osa (at8 a) (at8 b) (i + 1) j := hC.2 j (by omega)
  have hs := osa_s (a := at8 a) (b := at8 b) i j
  refine wC_seq ?_
  refine wC_reg ?_
  refine wS_set rfl rfl rfl (a_move rfl rfl) ?_
  refine wS_set rfl rfl rfl (a_move rfl rfl) ?_
  refine wS_set rfl rfl rfl (n_sub (a := j + 1) (b := 1) rfl rfl (by omega) (by simp only [capN]; omega)) ?_
  refine wS_set rfl rfl rfl (n_indexAddrP (a := j) rfl rfl rfl (hT rfl) rfl (hT rfl) rfl (by omega)) ?_
  refine wS_set rfl rfl rfl (a_loadI (by omega) rfl rfl (hT rfl) rfl) ?_
  refine wS_set rfl rfl rfl (a_assign rfl rfl) ?_
  refine wO_nil ?_
  refine wC_cut (fun ρ => PinSt 131 [(0, .v (.lit (.string a))), (1, .v (.lit (.string b))), (5, .own 15 1 0 (b.size + 1)), (6, .own 19 1 0 (b.size + 1)), (7, .own 23 1 0 (b.size + 1)), (9, natX .i64 (i + 1)), (10, natX .i64 (j + 1)), (11, natX .i64 (osa (at8 a) (at8 b) i j + (if at8 a i = at8 b j then 0 else 1)))] [(15, .row 1 true 1 (rowI A)), (19, .row 1 true 1 (rowI R)), (23, .row 1 true 1 (rowI C))] ρ) ?_ fun ρ' hI => ?_
  · refine wC_seq ?_
    refine wC_regD (by kernel_rfl) ?_
    refine wS_set rfl rfl rfl (a_move rfl rfl) ?_
    refine wS_set rfl rfl rfl (a_move rfl rfl) ?_
    refine wS_set rfl rfl rfl (n_sub (a := i + 1) (b := 1) rfl rfl (by omega) (by simp only [capN]; omega)) ?_
    refine wS_set rfl rfl rfl (n_byteAt (a := i) (by omega) rfl rfl (hT rfl) rfl) ?_
    refine wS_set rfl rfl rfl (a_move rfl rfl) ?_
    refine wS_set rfl rfl rfl (a_move rfl rfl) ?_
    refine wS_set rfl rfl rfl (n_sub (a := j + 1) (b := 1) rfl rfl (by omega) (by simp only [capN]; omega)) ?_
    refine wS_set rfl rfl rfl (n_byteAt (a := j) (by omega) rfl rfl (hT rfl) rfl) ?_
    refine wS_set rfl rfl rfl (n_neq (a := at8 a i) (b := at8 b j) rfl rfl) ?_
    refine wO_nil ⟨rfl, by kernel_rfl, ?_⟩
    refine wC_cond rfl (fun hc => ?_) (fun hc => ?_)
    · have hne : ¬ at8 a i = at8 b j := of_decide_eq_true hc
      refine wC_reg ?_
      refine wS_set rfl rfl rfl (a_move rfl rfl) ?_
      refine wS_set rfl rfl rfl (n_add (a := R.getD j 0) (b := 1) rfl rfl (by simp only [capN]; omega)) ?_
      refine wS_set rfl rfl rfl (a_assign rfl rfl) ?_
      refine wO_nil ?_
      exact ⟨rfl, pinned_mk rfl ⟨rfl, rfl, rfl, rfl, rfl, rfl, rfl, by rw [if_neg hne, ← r1]; rfl, trivial⟩ ⟨rfl, rfl, rfl, trivial⟩⟩
    · have he : at8 a i = at8 b j := Classical.not_not.1 (of_decide_eq_false hc)
      refine wC_skip ?_
      exact ⟨rfl, pinned_mk rfl ⟨rfl, rfl, rfl, rfl, rfl, rfl, rfl, by rw [if_pos he, Nat.add_zero, ← r1]; rfl, trivial⟩ ⟨rfl, rfl, rfl, trivial⟩⟩
  clear g h
  replace hI := hI.form
  obtain ⟨g, h, rfl⟩ := hI
  have hcc : (if at8 a i = at8 b j then 0 else 1) ≤ 1 := by split <;> omega
  generalize hcdef : (if at8 a i = at8 b j then 0 else 1) = c at hs hcc ⊢
  refine wC_seq ?_
  refine wC_regD (by kernel_rfl) ?_
  refine wS_set rfl rfl rfl (a_move rfl rfl) ?_
  refine wS_set rfl rfl rfl (a_move rfl rfl) ?_
  refine wS_set rfl rfl rfl (a_move rfl rfl) ?_
  refine wS_set rfl rfl rfl (a_move rfl rfl) ?_
  refine wS_set rfl rfl rfl (a_move rfl rfl) ?_
  refine wS_set rfl rfl rfl (n_indexAddrP (a := j + 1) rfl rfl rfl (hT rfl) rfl (hT rfl) rfl (by omega)) ?_
  refine wS_set rfl rfl rfl (a_loadI (by omega) rfl rfl (hT rfl) rfl) ?_
  refine wS_set rfl rfl rfl (n_add (a := R.getD (j + 1) 0) (b := 1) rfl rfl (by simp only [capN]; omega)) ?_
  refine wS_set rfl rfl rfl (a_move rfl rfl) ?_
  refine wS_set rfl rfl rfl (a_move rfl rfl) ?_
  refine wS_set rfl rfl rfl (n_sub (a := j + 1) (b := 1) rfl rfl (by omega) (by simp only [capN]; omega)) ?_
  refine wS_set rfl rfl rfl (n_indexAddrP (a := j) rfl rfl rfl (hT rfl) rfl (hT rfl) rfl (by omega)) ?_
  refine wS_set rfl rfl rfl (a_loadI (by omega) rfl rfl (hT rfl) rfl) ?_
  refine wS_set rfl rfl rfl (n_add (a := C.getD j 0) (b := 1) rfl rfl (by simp only [capN]; omega)) ?_
  refine wS_set rfl rfl rfl (n_min3 (a := osa (at8 a) (at8 b) i j + c) (b := R.getD (j + 1) 0 + 1) (c := C.getD j 0 + 1) rfl rfl rfl) ?_
  refine wS_set rfl rfl rfl (n_indexAddrP (a := j + 1) rfl rfl rfl (hT rfl) rfl (hT rfl) rfl (by omega)) ?_
  refine wS_eff rfl rfl (a_storeR (v := min (min (osa (at8 a) (at8 b) i j + c) (R.getD (j + 1) 0 + 1)) (C.getD j 0 + 1)) (by omega) rfl rfl rfl (hT rfl) rfl rfl) ?_
  refine wO_nil ⟨rfl, by kernel_rfl, ?_⟩
  rw [← r2, ← r3] at hs
  by_cases h1 : 1 ≤ i
  case neg =>
    have hsw : ¬ (1 ≤ i ∧ 1 ≤ j ∧ at8 a i = at8 b (j - 1) ∧ at8 a (i - 1) = at8 b j) := fun x => h1 x.1
    rw [if_neg hsw] at hs
    refine wC_seq ?_
    refine wC_regD (by kernel_rfl) ?_
    refine wS_set rfl rfl rfl (a_move rfl rfl) ?_
    refine wS_set rfl rfl rfl (n_gtrF (a := i + 1) (b := 1) (by omega) rfl rfl) ?_
    refine wS_set rfl rfl rfl (a_move rfl rfl) ?_
    refine wS_skip rfl rfl rfl ?_
    refine wS_skip rfl rfl rfl ?_
    refine wS_set rfl rfl rfl (a_pickF rfl rfl) ?_
    refine wS_set rfl rfl rfl (a_move rfl rfl) ?_
    refine wS_skip rfl rfl rfl ?_
    refine wS_skip rfl rfl rfl ?_
    refine wS_skip rfl rfl rfl ?_
    refine wS_skip rfl rfl rfl ?_
    refine wS_skip rfl rfl rfl ?_
    refine wS_skip rfl rfl rfl ?_
    refine wS_skip rfl rfl rfl ?_
    refine wS_skip rfl rfl rfl ?_
    refine wS_skip rfl rfl rfl ?_
    refine wS_set rfl rfl rfl (a_pickF rfl rfl) ?_
    refine wS_set rfl rfl rfl (a_move rfl rfl) ?_
    refine wS_skip rfl rfl rfl ?_
    refine wS_skip rfl rfl rfl ?_
    refine wS_skip rfl rfl rfl ?_
    refine wS_skip rfl rfl rfl ?_
    refine wS_skip rfl rfl rfl ?_
    refine wS_skip rfl rfl rfl ?_
    refine wS_skip rfl rfl rfl ?_
    refine wS_skip rfl rfl rfl ?_
    refine wS_skip rfl rfl rfl ?_
    refine wS_set rfl rfl rfl (a_pickF rfl rfl) ?_
    refine wO_nil ⟨rfl, by kernel_rfl, ?_⟩
    refine wC_cond (p := false) rfl (fun hc => absurd hc (by decide)) (fun _ => ?_)
    refine wC_skip ?_
    exact hq _ _ (isRow_set hC (by omega) hs.symm) (pinned_mk rfl ⟨rfl, rfl, rfl, rfl, rfl, rfl, rfl, trivial⟩ ⟨rfl, rfl, rfl, trivial⟩)
  by_cases h2 : 1 ≤ j
  case neg =>
    have hsw : ¬ (1 ≤ i ∧ 1 ≤ j ∧ at8 a i = at8 b (j - 1) ∧ at8 a (i - 1) = at8 b j) := fun x => h2 x.2.1
    rw [if_neg hsw] at hs
    refine wC_seq ?_
    refine wC_regD (by kernel_rfl) ?_
    refine wS_set rfl rfl rfl (a_move rfl rfl) ?_
    refine wS_set rfl rfl rfl (n_gtrT (a := i + 1) (b := 1) (by omega) rfl rfl) ?_
    refine wS_set rfl rfl rfl (a_move rfl rfl) ?_
    refine wS_set rfl rfl rfl (a_move rfl rfl) ?_
    refine wS_set rfl rfl rfl (n_gtrF (a := j + 1) (b := 1) (by omega) rfl rfl) ?_
    refine wS_set rfl rfl rfl (a_pickT rfl rfl) ?_
    refine wS_set rfl rfl rfl (a_move rfl rfl) ?_
    refine wS_skip rfl rfl rfl ?_
    refine wS_skip rfl rfl rfl ?_
    refine wS_skip rfl rfl rfl ?_
    refine wS_skip rfl rfl rfl ?_
    refine wS_skip rfl rfl rfl ?_
    refine wS_skip rfl rfl rfl ?_
    refine wS_skip rfl rfl rfl ?_
    refine wS_skip rfl rfl rfl ?_
    refine wS_skip rfl rfl rfl ?_
    refine wS_set rfl rfl rfl (a_pickF rfl rfl) ?_
    refine wS_set rfl rfl rfl (a_move rfl rfl) ?_
    refine wS_skip rfl rfl rfl ?_
    refine wS_skip rfl rfl rfl ?_
    refine wS_skip rfl rfl rfl ?_
    refine wS_skip rfl rfl rfl ?_
    refine wS_skip rfl rfl rfl ?_
    refine wS_skip rfl rfl rfl ?_
    refine wS_skip rfl rfl rfl ?_
    refine wS_skip rfl rfl rfl ?_
    refine wS_skip rfl rfl rfl ?_
    refine wS_set rfl rfl rfl (a_pickF rfl rfl) ?_
    refine wO_nil ⟨rfl, by kernel_rfl, ?_⟩
    refine wC_cond (p := false) rfl (fun hc => absurd hc (by decide)) (fun _ => ?_)
    refine wC_skip ?_
    exact hq _ _ (isRow_set hC (by omega) hs.symm) (pinned_mk rfl ⟨rfl, rfl, rfl, rfl, rfl, rfl, rfl, trivial⟩ ⟨rfl, rfl, rfl, trivial⟩)
  by_cases h3 : at8 a i = at8 b (j - 1)
  case neg =>
    have hsw : ¬ (1 ≤ i ∧ 1 ≤ j ∧ at8 a i = at8 b (j - 1) ∧ at8 a (i - 1) = at8 b j) := fun x => h3 x.2.2.1
    rw [if_neg hsw] at hs
    refine wC_seq ?_
    refine wC_regD (by kernel_rfl) ?_
    refine wS_set rfl rfl rfl (a_move rfl rfl) ?_
    refine wS_set rfl rfl rfl (n_gtrT (a := i + 1) (b := 1) (by omega) rfl rfl) ?_
    refine wS_set rfl rfl rfl (a_move rfl rfl) ?_
    refine wS_set rfl rfl rfl (a_move rfl rfl) ?_
    refine wS_set rfl rfl rfl (n_gtrT (a := j + 1) (b := 1) (by omega) rfl rfl) ?_
    refine wS_set rfl rfl rfl (a_pickT rfl rfl) ?_
    refine wS_set rfl rfl rfl (a_move rfl rfl) ?_
    refine wS_set rfl rfl rfl (a_move rfl rfl) ?_
    refine wS_set rfl rfl rfl (a_move rfl rfl) ?_
    refine wS_set rfl rfl rfl (n_sub (a := i + 1) (b := 1) rfl rfl (by omega) (by simp only [capN]; omega)) ?_
    refine wS_set rfl rfl rfl (n_byteAt (a := i) (by omega) rfl rfl (hT rfl) rfl) ?_
    refine wS_set rfl rfl rfl (a_move rfl rfl) ?_
    refine wS_set rfl rfl rfl (a_move rfl rfl) ?_
    refine wS_set rfl rfl rfl (n_sub (a := j + 1) (b := 2) rfl rfl (by omega) (by simp only [capN]; omega)) ?_
    refine wS_set rfl rfl rfl (n_byteAt (a := j - 1) (by omega) rfl rfl (hT rfl) rfl) ?_
    refine wS_set rfl rfl rfl (n_eqlF (a := at8 a i) (b := at8 b (j - 1)) h3 rfl rfl) ?_
    refine wS_set rfl rfl rfl (a_pickT rfl rfl) ?_
    refine wS_set rfl rfl rfl (a_move rfl rfl) ?_
    refine wS_skip rfl rfl rfl ?_
    refine wS_skip rfl rfl rfl ?_
    refine wS_skip rfl rfl rfl ?_
    refine wS_skip rfl rfl rfl ?_
    refine wS_skip rfl rfl rfl ?_
    refine wS_skip rfl rfl rfl ?_
    refine wS_skip rfl rfl rfl ?_
    refine wS_skip rfl rfl rfl ?_
    refine wS_skip rfl rfl rfl ?_
    refine wS_set rfl rfl rfl (a_pickF rfl rfl) ?_
    refine wO_nil ⟨rfl, by kernel_rfl, ?_⟩
    refine wC_cond (p := false) rfl (fun hc => absurd hc (by decide)) (fun _ => ?_)
    refine wC_skip ?_
    exact hq _ _ (isRow_set hC (by omega) hs.symm) (pinned_mk rfl ⟨rfl, rfl, rfl, rfl, rfl, rfl, rfl, trivial⟩ ⟨rfl, rfl, rfl, trivial⟩)
  by_cases h4 : at8 a (i - 1) = at8 b j
  case neg =>
    have hsw : ¬ (1 ≤ i ∧ 1 ≤ j ∧ at8 a i = at8 b (j - 1) ∧ at8 a (i - 1) = at8 b j) := fun x => h4 x.2.2.2
    rw [if_neg hsw] at hs
    refine wC_seq ?_
    refine wC_regD (by kernel_rfl) ?_
    refine wS_set rfl rfl rfl (a_move rfl rfl) ?_
    refine wS_set rfl rfl rfl (n_gtrT (a := i + 1) (b := 1) (by omega) rfl rfl) ?_
    refine wS_set rfl rfl rfl (a_move rfl rfl) ?_
    refine wS_set rfl rfl rfl (a_move rfl rfl) ?_
    refine wS_set rfl rfl rfl (n_gtrT (a := j + 1) (b := 1) (by omega) rfl rfl) ?_
    refine wS_set rfl rfl rfl (a_pickT rfl rfl) ?_
    refine wS_set rfl rfl rfl (a_move rfl rfl) ?_
    refine wS_set rfl rfl rfl (a_move rfl rfl) ?_
    refine wS_set rfl rfl rfl (a_move rfl rfl) ?_
    refine wS_set rfl rfl rfl (n_sub (a := i + 1) (b := 1) rfl rfl (by omega) (by simp only [capN]; omega)) ?_
    refine wS_set rfl rfl rfl (n_byteAt (a := i) (by omega) rfl rfl (hT rfl) rfl) ?_
    refine wS_set rfl rfl rfl (a_move rfl rfl) ?_
    refine wS_set rfl rfl rfl (a_move rfl rfl) ?_
    refine wS_set rfl rfl rfl (n_sub (a := j + 1) (b := 2) rfl rfl (by omega) (by simp only [capN]; omega)) ?_
    refine wS_set rfl rfl rfl (n_byteAt (a := j - 1) (by omega) rfl rfl (hT rfl) rfl) ?_
    refine wS_set rfl rfl rfl (n_eqlT (a := at8 a i) (b := at8 b (j - 1)) h3 rfl rfl) ?_
    refine wS_set rfl rfl rfl (a_pickT rfl rfl) ?_
    refine wS_set rfl rfl rfl (a_move rfl rfl) ?_
    refine wS_set rfl rfl rfl (a_move rfl rfl) ?_
    refine wS_set rfl rfl rfl (a_move rfl rfl) ?_
    refine wS_set rfl rfl rfl (n_sub (a := i + 1) (b := 2) rfl rfl (by omega) (by simp only [capN]; omega)) ?_
    refine wS_set rfl rfl rfl (n_byteAt (a := i - 1) (by omega) rfl rfl (hT rfl) rfl) ?_
    refine wS_set rfl rfl rfl (a_move rfl rfl) ?_
    refine wS_set rfl rfl rfl (a_move rfl rfl) ?_
    refine wS_set rfl rfl rfl (n_sub (a := j + 1) (b := 1) rfl rfl (by omega) (by simp only [capN]; omega)) ?_
    refine wS_set rfl rfl rfl (n_byteAt (a := j) (by omega) rfl rfl (hT rfl) rfl) ?_
    refine wS_set rfl rfl rfl (n_eqlF (a := at8 a (i - 1)) (b := at8 b j) h4 rfl rfl) ?_
    refine wS_set rfl rfl rfl (a_pickT rfl rfl) ?_
    refine wO_nil ⟨rfl, by kernel_rfl, ?_⟩
    refine wC_cond (p := false) rfl (fun hc => absurd hc (by decide)) (fun _ => ?_)
    refine wC_skip ?_
    exact hq _ _ (isRow_set hC (by omega) hs.symm) (pinned_mk rfl ⟨rfl, rfl, rfl, rfl, rfl, rfl, rfl, trivial⟩ ⟨rfl, rfl, rfl, trivial⟩)
  rw [if_pos ⟨h1, h2, h3, h4⟩] at hs
  have r4 : A.getD (j - 1) 0 = osa (at8 a) (at8 b) (i - 1) (j - 1) := (hA2 h1).2 (j - 1) (by omega)
  rw [← r4] at hs
  generalize hm : min (min (osa (at8 a) (at8 b) i j + c) (R.getD (j + 1) 0 + 1)) (C.getD j 0 + 1) = m at hs ⊢
  have e1 : (C.set (j + 1) m).length = b.size + 1 := by rw [List.length_set]; exact hCl
  have e2 : (C.set (j + 1) m).getD (j + 1) 0 = m := getD_set_self (by omega)
  refine wC_seq ?_
  refine wC_regD (by kernel_rfl) ?_
  refine wS_set rfl rfl rfl (a_move rfl rfl) ?_
  refine wS_set rfl rfl rfl (n_gtrT (a := i + 1) (b := 1) (by omega) rfl rfl) ?_
  refine wS_set rfl rfl rfl (a_move rfl rfl) ?_
  refine wS_set rfl rfl rfl (a_move rfl rfl) ?_
  refine wS_set rfl rfl rfl (n_gtrT (a := j + 1) (b := 1) (by omega) rfl rfl) ?_
  refine wS_set rfl rfl rfl (a_pickT rfl rfl) ?_
  refine wS_set rfl rfl rfl (a_move rfl rfl) ?_
  refine wS_set rfl rfl rfl (a_move rfl rfl) ?_
  refine wS_set rfl rfl rfl (a_move rfl rfl) ?_
  refine wS_set rfl rfl rfl (n_sub (a := i + 1) (b := 1) rfl rfl (by omega) (by simp only [capN]; omega)) ?_
  refine wS_set rfl rfl rfl (n_byteAt (a := i) (by omega) rfl rfl (hT rfl) rfl) ?_
  refine wS_set rfl rfl rfl (a_move rfl rfl) ?_
  refine wS_set rfl rfl rfl (a_move rfl rfl) ?_
  refine wS_set rfl rfl rfl (n_sub (a := j + 1) (b := 2) rfl rfl (by omega) (by simp only [capN]; omega)) ?_
  refine wS_set rfl rfl rfl (n_byteAt (a := j - 1) (by omega) rfl rfl (hT rfl) rfl) ?_
  refine wS_set rfl rfl rfl (n_eqlT (a := at8 a i) (b := at8 b (j - 1)) h3 rfl rfl) ?_
  refine wS_set rfl rfl rfl (a_pickT rfl rfl) ?_
  refine wS_set rfl rfl rfl (a_move rfl rfl) ?_
  refine wS_set rfl rfl rfl (a_move rfl rfl) ?_
  refine wS_set rfl rfl rfl (a_move rfl rfl) ?_
  refine wS_set rfl rfl rfl (n_sub (a := i + 1) (b := 2) rfl rfl (by omega) (by simp only [capN]; omega)) ?_
  refine wS_set rfl rfl rfl (n_byteAt (a := i - 1) (by omega) rfl rfl (hT rfl) rfl) ?_
  refine wS_set rfl rfl rfl (a_move rfl rfl) ?_
  refine wS_set rfl rfl rfl (a_move rfl rfl) ?_
  refine wS_set rfl rfl rfl (n_sub (a := j + 1) (b := 1) rfl rfl (by omega) (by simp only [capN]; omega)) ?_
  refine wS_set rfl rfl rfl (n_byteAt (a := j) (by omega) rfl rfl (hT rfl) rfl) ?_
  refine wS_set rfl rfl rfl (n_eqlT (a := at8 a (i - 1)) (b := at8 b j) h4 rfl rfl) ?_
  refine wS_set rfl rfl rfl (a_pickT rfl rfl) ?_
  refine wO_nil ⟨rfl, by kernel_rfl, ?_⟩
  refine wC_cond (p := true) rfl (fun _ => ?_) (fun hc => absurd hc (by decide))
  refine wC_regD (by kernel_rfl) ?_
  refine wS_set rfl rfl rfl (a_move rfl rfl) ?_
  refine wS_set rfl rfl rfl (a_move rfl rfl) ?_
  refine wS_set rfl rfl rfl (a_move rfl rfl) ?_
  refine wS_set rfl rfl rfl (a_move rfl rfl) ?_
  refine wS_set rfl rfl rfl (n_indexAddrP (a := j + 1) rfl rfl rfl (hT rfl) rfl (hT rfl) rfl (by omega)) ?_
  refine wS_set rfl rfl rfl (a_loadI (by omega) rfl rfl (hT rfl) rfl) ?_
  refine wS_set rfl rfl rfl (a_move rfl rfl) ?_
  refine wS_set rfl rfl rfl (a_move rfl rfl) ?_
  refine wS_set rfl rfl rfl (n_sub (a := j + 1) (b := 2) rfl rfl (by omega) (by simp only [capN]; omega)) ?_
  refine wS_set rfl rfl rfl (n_indexAddrP (a := j - 1) rfl rfl rfl (hT rfl) rfl (hT rfl) rfl (by omega)) ?_
  refine wS_set rfl rfl rfl (a_loadI (by omega) rfl rfl (hT rfl) rfl) ?_
  refine wS_set rfl rfl rfl (n_add (a := A.getD (j - 1) 0) (b := 1) rfl rfl (by simp only [capN]; omega)) ?_
  refine wS_set rfl rfl rfl (n_min2 (a := (C.set (j + 1) m).getD (j + 1) 0) (b := A.getD (j - 1) 0 + 1) rfl rfl) ?_
  refine wS_set rfl rfl rfl (n_indexAddrP (a := j + 1) rfl rfl rfl (hT rfl) rfl (hT rfl) rfl (by omega)) ?_
  refine wS_eff rfl rfl (a_storeR (v := min ((C.set (j + 1) m).getD (j + 1) 0) (A.getD (j - 1) 0 + 1)) (by omega) rfl rfl rfl (hT rfl) rfl rfl) ?_
  refine wO_nil ⟨rfl, by kernel_rfl, ?_⟩
  refine hq _ _ ?_ (pinned_mk rfl ⟨rfl, rfl, rfl, rfl, rfl, rfl, rfl, trivial⟩ ⟨rfl, rfl, rfl, trivial⟩)
  rw [e2, List.set_set]
  exact isRow_set hC (by omega) hs.symm

set_option maxRecDepth 100000 in
theorem inner1 {a b : ByteArray} (hla : a.size ≤ 1000) (hlb : b.size ≤ 1000) {i j : Nat} (hi : i < a.size) (hj : j < b.size) {A R C : List Nat} (hA : A.length = b.size + 1) (hA2 : 1 ≤ i → isRow (b.size + 1) A (osa (at8 a) (at8 b) (i - 1)) (b.size + 1))
    (hR : isRow (b.size + 1) R (osa (at8 a) (at8 b) i) (b.size + 1)) (hC : isRow (b.size + 1) C (osa (at8 a) (at8 b) (i + 1)) (j + 1)) {Q : Ex → St → Prop} {cd : Code} {ρ0 : St}
    (hρ0 : PinSt 131 [(0, .v (.lit (.string a))), (1, .v (.lit (.string b))), (5, .own 19 1 0 (b.size + 1)), (6, .own 23 1 0 (b.size + 1)), (7, .own 15 1 0 (b.size + 1)), (9, natX .i64 (i + 1)), (10, natX .i64 (j + 1))] [(19, .row 1 true 1 (rowI A)), (23, .row 1 true 1 (rowI R)), (15, .row 1 true 1 (rowI C))] ρ0) (hcd : cd = codeIn)
    (hq : ∀ C' ρ, isRow (b.size + 1) C' (osa (at8 a) (at8 b) (i + 1)) (j + 1 + 1) → PinSt 131 [(0, .v (.lit (.string a))), (1, .v (.lit (.string b))), (5, .own 19 1 0 (b.size + 1)), (6, .own 23 1 0 (b.size + 1)), (7, .own 15 1 0 (b.size + 1)), (9, natX .i64 (i + 1)), (10, natX .i64 (j + 1))] [(19, .row 1 true 1 (rowI A)), (23, .row 1 true 1 (rowI R)), (15, .row 1 true 1 (rowI C'))] ρ → Q .normal ρ) :
    wpC tab ext cd ρ0 Q := by
  subst hcd
  replace hρ0 := hρ0.form
  obtain ⟨g, h, rfl⟩ := hρ0
  have hCl := hC.1
  have hRl := hR.1
  have l1 := osa_le (a := at8 a) (b := at8 b) (i + j) i j (Nat.le_refl _)
  have l2 := osa_le (a := at8 a) (b := at8 b) (i + j + 1) i (j + 1) (by omega)
  have l3 := osa_le (a := at8 a) (b := at8 b) (i + j + 1) (i + 1) j (by omega)
  have l4 := osa_le (a := at8 a) (b := at8 b) (i + j) (i - 1) (j - 1) (by omega)
  have r1 : R.getD j 0 = osa (at8 a) (at8 b) i j := hR.2 j (by omega)
  have r2 : R.getD (j + 1) 0 = osa (at8 a) (at8 b) i (j + 1) := hR.2 (j + 1) (by omega)
  have r3 : C.getD j 0 = osa (at8 a) (at8 b) (i + 1) j := hC.2 j (by omega)
  have hs := osa_s (a := at8 a) (b := at8 b) i j
  refine wC_seq ?_
  refine wC_reg ?_
  refine wS_set rfl rfl rfl (a_move rfl rfl) ?_
  refine wS_set rfl rfl rfl (a_move rfl rfl) ?_
  refine wS_set rfl rfl rfl (n_sub (a := j + 1) (b := 1) rfl rfl (by omega) (by simp only [capN]; omega)) ?_
  refine wS_set rfl rfl rfl (n_indexAddrP (a := j) rfl rfl rfl (hT rfl) rfl (hT rfl) rfl (by omega)) ?_
  refine wS_set rfl rfl rfl (a_loadI (by omega) rfl rfl (hT rfl) rfl) ?_
  refine wS_set rfl rfl rfl (a_assign rfl rfl) ?_
  refine wO_nil ?_
  refine wC_cut (fun ρ => PinSt 131 [(0, .v (.lit (.string a))), (1, .v (.lit (.string b))), (5, .own 19 1 0 (b.size + 1)), (6, .own 23 1 0 (b.size + 1)), (7, .own 15 1 0 (b.size + 1)), (9, natX .i64 (i + 1)), (10, natX .i64 (j + 1)), (11, natX .i64 (osa (at8 a) (at8 b) i j + (if at8 a i = at8 b j then 0 else 1)))] [(19, .row 1 true 1 (rowI A)), (23, .row 1 true 1 (rowI R)), (15, .row 1 true 1 (rowI C))] ρ) ?_ fun ρ' hI => ?_
  · refine wC_seq ?_
    refine wC_regD (by kernel_rfl) ?_
    refine wS_set rfl rfl rfl (a_move rfl rfl) ?_
    refine wS_set rfl rfl rfl (a_move rfl rfl) ?_
    refine wS_set rfl rfl rfl (n_sub (a := i + 1) (b := 1) rfl rfl (by omega) (by simp only [capN]; omega)) ?_
    refine wS_set rfl rfl rfl (n_byteAt (a := i) (by omega) rfl rfl (hT rfl) rfl) ?_
    refine wS_set rfl rfl rfl (a_move rfl rfl) ?_
    refine wS_set rfl rfl rfl (a_move rfl rfl) ?_
    refine wS_set rfl rfl rfl (n_sub (a := j + 1) (b := 1) rfl rfl (by omega) (by simp only [capN]; omega)) ?_
    refine wS_set rfl rfl rfl (n_byteAt (a := j) (by omega) rfl rfl (hT rfl) rfl) ?_
    refine wS_set rfl rfl rfl (n_neq (a := at8 a i) (b := at8 b j) rfl rfl) ?_
    refine wO_nil ⟨rfl, by kernel_rfl, ?_⟩
    refine wC_cond rfl (fun hc => ?_) (fun hc => ?_)
    · have hne : ¬ at8 a i = at8 b j := of_decide_eq_true hc
      refine wC_reg ?_
      refine wS_set rfl rfl rfl (a_move rfl rfl) ?_
      refine wS_set rfl rfl rfl (n_add (a := R.getD j 0) (b := 1) rfl rfl (by simp only [capN]; omega)) ?_
      refine wS_set rfl rfl rfl (a_assign rfl rfl) ?_
      refine wO_nil ?_
      exact ⟨rfl, pinned_mk rfl ⟨rfl, rfl, rfl, rfl, rfl, rfl, rfl, by rw [if_neg hne, ← r1]; rfl, trivial⟩ ⟨rfl, rfl, rfl, trivial⟩⟩
    · have he : at8 a i = at8 b j := Classical.not_not.1 (of_decide_eq_false hc)
      refine wC_skip ?_
      exact ⟨rfl, pinned_mk rfl ⟨rfl, rfl, rfl, rfl, rfl, rfl, rfl, by rw [if_pos he, Nat.add_zero, ← r1]; rfl, trivial⟩ ⟨rfl, rfl, rfl, trivial⟩⟩
  clear g h
  replace hI := hI.form
  obtain ⟨g, h, rfl⟩ := hI
  have hcc : (if at8 a i = at8 b j then 0 else 1) ≤ 1 := by split <;> omega
  generalize hcdef : (if at8 a i = at8 b j then 0 else 1) = c at hs hcc ⊢
  refine wC_seq ?_
  refine wC_regD (by kernel_rfl) ?_
  refine wS_set rfl rfl rfl (a_move rfl rfl) ?_
  refine wS_set rfl rfl rfl (a_move rfl rfl) ?_
  refine wS_set rfl rfl rfl (a_move rfl rfl) ?_
  refine wS_set rfl rfl rfl (a_move rfl rfl) ?_
  refine wS_set rfl rfl rfl (a_move rfl rfl) ?_
  refine wS_set rfl rfl rfl (n_indexAddrP (a := j + 1) rfl rfl rfl (hT rfl) rfl (hT rfl) rfl (by omega)) ?_
  refine wS_set rfl rfl rfl (a_loadI (by omega) rfl rfl (hT rfl) rfl) ?_
  refine wS_set rfl rfl rfl (n_add (a := R.getD (j + 1) 0) (b := 1) rfl rfl (by simp only [capN]; omega)) ?_
  refine wS_set rfl rfl rfl (a_move rfl rfl) ?_
  refine wS_set rfl rfl rfl (a_move rfl rfl) ?_
  refine wS_set rfl rfl rfl (n_sub (a := j + 1) (b := 1) rfl rfl (by omega) (by simp only [capN]; omega)) ?_
  refine wS_set rfl rfl rfl (n_indexAddrP (a := j) rfl rfl rfl (hT rfl) rfl (hT rfl) rfl (by omega)) ?_
  refine wS_set rfl rfl rfl (a_loadI (by omega) rfl rfl (hT rfl) rfl) ?_
  refine wS_set rfl rfl rfl (n_add (a := C.getD j 0) (b := 1) rfl rfl (by simp only [capN]; omega)) ?_
  refine wS_set rfl rfl rfl (n_min3 (a := osa (at8 a) (at8 b) i j + c) (b := R.getD (j + 1) 0 + 1) (c := C.getD j 0 + 1) rfl rfl rfl) ?_
  refine wS_set rfl rfl rfl (n_indexAddrP (a := j + 1) rfl rfl rfl (hT rfl) rfl (hT rfl) rfl (by omega)) ?_
  refine wS_eff rfl rfl (a_storeR (v := min (min (osa (at8 a) (at8 b) i j + c) (R.getD (j + 1) 0 + 1)) (C.getD j 0 + 1)) (by omega) rfl rfl rfl (hT rfl) rfl rfl) ?_
  refine wO_nil ⟨rfl, by kernel_rfl, ?_⟩
  rw [← r2, ← r3] at hs
  by_cases h1 : 1 ≤ i
  case neg =>
    have hsw : ¬ (1 ≤ i ∧ 1 ≤ j ∧ at8 a i = at8 b (j - 1) ∧ at8 a (i - 1) = at8 b j) := fun x => h1 x.1
    rw [if_neg hsw] at hs
    refine wC_seq ?_
    refine wC_regD (by kernel_rfl) ?_
    refine wS_set rfl rfl rfl (a_move rfl rfl) ?_
    refine wS_set rfl rfl rfl (n_gtrF (a := i + 1) (b := 1) (by omega) rfl rfl) ?_
    refine wS_set rfl rfl rfl (a_move rfl rfl) ?_
    refine wS_skip rfl rfl rfl ?_
    refine wS_skip rfl rfl rfl ?_
    refine wS_set rfl rfl rfl (a_pickF rfl rfl) ?_
    refine wS_set rfl rfl rfl (a_move rfl rfl) ?_
    refine wS_skip rfl rfl rfl ?_
    refine wS_skip rfl rfl rfl ?_
    refine wS_skip rfl rfl rfl ?_
    refine wS_skip rfl rfl rfl ?_
    refine wS_skip rfl rfl rfl ?_
    refine wS_skip rfl rfl rfl ?_
    refine wS_skip rfl rfl rfl ?_
    refine wS_skip rfl rfl rfl ?_
    refine wS_skip rfl rfl rfl ?_
    refine wS_set rfl rfl rfl (a_pickF rfl rfl) ?_
    refine wS_set rfl rfl rfl (a_move rfl rfl) ?_
    refine wS_skip rfl rfl rfl ?_
    refine wS_skip rfl rfl rfl ?_
    refine wS_skip rfl rfl rfl ?_
    refine wS_skip rfl rfl rfl ?_
    refine wS_skip rfl rfl rfl ?_
    refine wS_skip rfl rfl rfl ?_
    refine wS_skip rfl rfl rfl ?_
    refine wS_skip rfl rfl rfl ?_
    refine wS_skip rfl rfl rfl ?_
    refine wS_set rfl rfl rfl (a_pickF rfl rfl) ?_
    refine wO_nil ⟨rfl, by kernel_rfl, ?_⟩
    refine wC_cond (p := false) rfl (fun hc => absurd hc (by decide)) (fun _ => ?_)
    refine wC_skip ?_
    exact hq _ _ (isRow_set hC (by omega) hs.symm) (pinned_mk rfl ⟨rfl, rfl, rfl, rfl, rfl, rfl, rfl, trivial⟩ ⟨rfl, rfl, rfl, trivial⟩)
  by_cases h2 : 1 ≤ j
  case neg =>
    have hsw : ¬ (1 ≤ i ∧ 1 ≤ j ∧ at8 a i = at8 b (j - 1) ∧ at8 a (i - 1) = at8 b j) := fun x => h2 x.2.1
    rw [if_neg hsw] at hs
    refine wC_seq ?_
    refine wC_regD (by kernel_rfl) ?_
    refine wS_set rfl rfl rfl (a_move rfl rfl) ?_
    refine wS_set rfl rfl rfl (n_gtrT (a := i + 1) (b := 1) (by omega) rfl rfl) ?_
    refine wS_set rfl rfl rfl (a_move rfl rfl) ?_
    refine wS_set rfl rfl rfl (a_move rfl rfl) ?_
    refine wS_set rfl rfl rfl (n_gtrF (a := j + 1) (b := 1) (by omega) rfl rfl) ?_
    refine wS_set rfl rfl rfl (a_pickT rfl rfl) ?_
    refine wS_set rfl rfl rfl (a_move rfl rfl) ?_
    refine wS_skip rfl rfl rfl ?_
    refine wS_skip rfl rfl rfl ?_
    refine wS_skip rfl rfl rfl ?_
    refine wS_skip rfl rfl rfl ?_
    refine wS_skip rfl rfl rfl ?_
    refine wS_skip rfl rfl rfl ?_
    refine wS_skip rfl rfl rfl ?_
    refine wS_skip rfl rfl rfl ?_
    refine wS_skip rfl rfl rfl ?_
    refine wS_set rfl rfl rfl (a_pickF rfl rfl) ?_
    refine wS_set rfl rfl rfl (a_move rfl rfl) ?_
    refine wS_skip rfl rfl rfl ?_
    refine wS_skip rfl rfl rfl ?_
    refine wS_skip rfl rfl rfl ?_
    refine wS_skip rfl rfl rfl ?_
    refine wS_skip rfl rfl rfl ?_
    refine wS_skip rfl rfl rfl ?_
    refine wS_skip rfl rfl rfl ?_
    refine wS_skip rfl rfl rfl ?_
    refine wS_skip rfl rfl rfl ?_
    refine wS_set rfl rfl rfl (a_pickF rfl rfl) ?_
    refine wO_nil ⟨rfl, by kernel_rfl, ?_⟩
    refine wC_cond (p := false) rfl (fun hc => absurd hc (by decide)) (fun _ => ?_)
    refine wC_skip ?_
    exact hq _ _ (isRow_set hC (by omega) hs.symm) (pinned_mk rfl ⟨rfl, rfl, rfl, rfl, rfl, rfl, rfl, trivial⟩ ⟨rfl, rfl, rfl, trivial⟩)
  by_cases h3 : at8 a i = at8 b (j - 1)
  case neg =>
    have hsw : ¬ (1 ≤ i ∧ 1 ≤ j ∧ at8 a i = at8 b (j - 1) ∧ at8 a (i - 1) = at8 b j) := fun x => h3 x.2.2.1
    rw [if_neg hsw] at hs
    refine wC_seq ?_
    refine wC_regD (by kernel_rfl) ?_
    refine wS_set rfl rfl rfl (a_move rfl rfl) ?_
    refine wS_set rfl rfl rfl (n_gtrT (a := i + 1) (b := 1) (by omega) rfl rfl) ?_
    refine wS_set rfl rfl rfl (a_move rfl rfl) ?_
    refine wS_set rfl rfl rfl (a_move rfl rfl) ?_
    refine wS_set rfl rfl rfl (n_gtrT (a := j + 1) (b := 1) (by omega) rfl rfl) ?_
    refine wS_set rfl rfl rfl (a_pickT rfl rfl) ?_
    refine wS_set rfl rfl rfl (a_move rfl rfl) ?_
    refine wS_set rfl rfl rfl (a_move rfl rfl) ?_
    refine wS_set rfl rfl rfl (a_move rfl rfl) ?_
    refine wS_set rfl rfl rfl (n_sub (a := i + 1) (b := 1) rfl rfl (by omega) (by simp only [capN]; omega)) ?_
    refine wS_set rfl rfl rfl (n_byteAt (a := i) (by omega) rfl rfl (hT rfl) rfl) ?_
    refine wS_set rfl rfl rfl (a_move rfl rfl) ?_
    refine wS_set rfl rfl rfl (a_move rfl rfl) ?_
    refine wS_set rfl rfl rfl (n_sub (a := j + 1) (b := 2) rfl rfl (by omega) (by simp only [capN]; omega)) ?_
    refine wS_set rfl rfl rfl (n_byteAt (a := j - 1) (by omega) rfl rfl (hT rfl) rfl) ?_
    refine wS_set rfl rfl rfl (n_eqlF (a := at8 a i) (b := at8 b (j - 1)) h3 rfl rfl) ?_
    refine wS_set rfl rfl rfl (a_pickT rfl rfl) ?_
    refine wS_set rfl rfl rfl (a_move rfl rfl) ?_
    refine wS_skip rfl rfl rfl ?_
    refine wS_skip rfl rfl rfl ?_
    refine wS_skip rfl rfl rfl ?_
    refine wS_skip rfl rfl rfl ?_
    refine wS_skip rfl rfl rfl ?_
    refine wS_skip rfl rfl rfl ?_
    refine wS_skip rfl rfl rfl ?_
    refine wS_skip rfl rfl rfl ?_
    refine wS_skip rfl rfl rfl ?_
    refine wS_set rfl rfl rfl (a_pickF rfl rfl) ?_
    refine wO_nil ⟨rfl, by kernel_rfl, ?_⟩
    refine wC_cond (p := false) rfl (fun hc => absurd hc (by decide)) (fun _ => ?_)
    refine wC_skip ?_
    exact hq _ _ (isRow_set hC (by omega) hs.symm) (pinned_mk rfl ⟨rfl, rfl, rfl, rfl, rfl, rfl, rfl, trivial⟩ ⟨rfl, rfl, rfl, trivial⟩)
  by_cases h4 : at8 a (i - 1) = at8 b j
  case neg =>
    have hsw : ¬ (1 ≤ i ∧ 1 ≤ j ∧ at8 a i = at8 b (j - 1) ∧ at8 a (i - 1) = at8 b j) := fun x => h4 x.2.2.2
    rw [if_neg hsw] at hs
    refine wC_seq ?_
    refine wC_regD (by kernel_rfl) ?_
    refine wS_set rfl rfl rfl (a_move rfl rfl) ?_
    refine wS_set rfl rfl rfl (n_gtrT (a := i + 1) (b := 1) (by omega) rfl rfl) ?_
    refine wS_set rfl rfl rfl (a_move rfl rfl) ?_
    refine wS_set rfl rfl rfl (a_move rfl rfl) ?_
    refine wS_set rfl rfl rfl (n_gtrT (a := j + 1) (b := 1) (by omega) rfl rfl) ?_
    refine wS_set rfl rfl rfl (a_pickT rfl rfl) ?_
    refine wS_set rfl rfl rfl (a_move rfl rfl) ?_
    refine wS_set rfl rfl rfl (a_move rfl rfl) ?_
    refine wS_set rfl rfl rfl (a_move rfl rfl) ?_
    refine wS_set rfl rfl rfl (n_sub (a := i + 1) (b := 1) rfl rfl (by omega) (by simp only [capN]; omega)) ?_
    refine wS_set rfl rfl rfl (n_byteAt (a := i) (by omega) rfl rfl (hT rfl) rfl) ?_
    refine wS_set rfl rfl rfl (a_move rfl rfl) ?_
    refine wS_set rfl rfl rfl (a_move rfl rfl) ?_
    refine wS_set rfl rfl rfl (n_sub (a := j + 1) (b := 2) rfl rfl (by omega) (by simp only [capN]; omega)) ?_
    refine wS_set rfl rfl rfl (n_byteAt (a := j - 1) (by omega) rfl rfl (hT rfl) rfl) ?_
    refine wS_set rfl rfl rfl (n_eqlT (a := at8 a i) (b := at8 b (j - 1)) h3 rfl rfl) ?_
    refine wS_set rfl rfl rfl (a_pickT rfl rfl) ?_
    refine wS_set rfl rfl rfl (a_move rfl rfl) ?_
    refine wS_set rfl rfl rfl (a_move rfl rfl) ?_
    refine wS_set rfl rfl rfl (a_move rfl rfl) ?_
    refine wS_set rfl rfl rfl (n_sub (a := i + 1) (b := 2) rfl rfl (by omega) (by simp only [capN]; omega)) ?_
    refine wS_set rfl rfl rfl (n_byteAt (a := i - 1) (by omega) rfl rfl (hT rfl) rfl) ?_
    refine wS_set rfl rfl rfl (a_move rfl rfl) ?_
    refine wS_set rfl rfl rfl (a_move rfl rfl) ?_
    refine wS_set rfl rfl rfl (n_sub (a := j + 1) (b := 1) rfl rfl (by omega) (by simp only [capN]; omega)) ?_
    refine wS_set rfl rfl rfl (n_byteAt (a := j) (by omega) rfl rfl (hT rfl) rfl) ?_
    refine wS_set rfl rfl rfl (n_eqlF (a := at8 a (i - 1)) (b := at8 b j) h4 rfl rfl) ?_
    refine wS_set rfl rfl rfl (a_pickT rfl rfl) ?_
    refine wO_nil ⟨rfl, by kernel_rfl, ?_⟩
    refine wC_cond (p := false) rfl (fun hc => absurd hc (by decide)) (fun _ => ?_)
    refine wC_skip ?_
    exact hq _ _ (isRow_set hC (by omega) hs.symm) (pinned_mk rfl ⟨rfl, rfl, rfl, rfl, rfl, rfl, rfl, trivial⟩ ⟨rfl, rfl, rfl, trivial⟩)
  rw [if_pos ⟨h1, h2, h3, h4⟩] at hs
  have r4 : A.getD (j - 1) 0 = osa (at8 a) (at8 b) (i - 1) (j - 1) := (hA2 h1).2 (j - 1) (by omega)
  rw [← r4] at hs
  generalize hm : min (min (osa (at8 a) (at8 b) i j + c) (R.getD (j + 1) 0 + 1)) (C.getD j 0 + 1) = m at hs ⊢
  have e1 : (C.set (j + 1) m).length = b.size + 1 := by rw [List.length_set]; exact hCl
  have e2 : (C.set (j + 1) m).getD (j + 1) 0 = m := getD_set_self (by omega)
  refine wC_seq ?_
  refine wC_regD (by kernel_rfl) ?_
  refine wS_set rfl rfl rfl (a_move rfl rfl) ?_
  refine wS_set rfl rfl rfl (n_gtrT (a := i + 1) (b := 1) (by omega) rfl rfl) ?_
  refine wS_set rfl rfl rfl (a_move rfl rfl) ?_
  refine wS_set rfl rfl rfl (a_move rfl rfl) ?_
  refine wS_set rfl rfl rfl (n_gtrT (a := j + 1) (b := 1) (by omega) rfl rfl) ?_
  refine wS_set rfl rfl rfl (a_pickT rfl rfl) ?_
  refine wS_set rfl rfl rfl (a_move rfl rfl) ?_
  refine wS_set rfl rfl rfl (a_move rfl rfl) ?_
  refine wS_set rfl rfl rfl (a_move rfl rfl) ?_
  refine wS_set rfl rfl rfl (n_sub (a := i + 1) (b := 1) rfl rfl (by omega) (by simp only [capN]; omega)) ?_
  refine wS_set rfl rfl rfl (n_byteAt (a := i) (by omega) rfl rfl (hT rfl) rfl) ?_
  refine wS_set rfl rfl rfl (a_move rfl rfl) ?_
  refine wS_set rfl rfl rfl (a_move rfl rfl) ?_
  refine wS_set rfl rfl rfl (n_sub (a := j + 1) (b := 2) rfl rfl (by omega) (by simp only [capN]; omega)) ?_
  refine wS_set rfl rfl rfl (n_byteAt (a := j - 1) (by omega) rfl rfl (hT rfl) rfl) ?_
  refine wS_set rfl rfl rfl (n_eqlT (a := at8 a i) (b := at8 b (j - 1)) h3 rfl rfl) ?_
  refine wS_set rfl rfl rfl (a_pickT rfl rfl) ?_
  refine wS_set rfl rfl rfl (a_move rfl rfl) ?_
  refine wS_set rfl rfl rfl (a_move rfl rfl) ?_
  refine wS_set rfl rfl rfl (a_move rfl rfl) ?_
  refine wS_set rfl rfl rfl (n_sub (a := i + 1) (b := 2) rfl rfl (by omega) (by simp only [capN]; omega)) ?_
  refine wS_set rfl rfl rfl (n_byteAt (a := i - 1) (by omega) rfl rfl (hT rfl) rfl) ?_
  refine wS_set rfl rfl rfl (a_move rfl rfl) ?_
  refine wS_set rfl rfl rfl (a_move rfl rfl) ?_
  refine wS_set rfl rfl rfl (n_sub (a := j + 1) (b := 1) rfl rfl (by omega) (by simp only [capN]; omega)) ?_
  refine wS_set rfl rfl rfl (n_byteAt (a := j) (by omega) rfl rfl (hT rfl) rfl) ?_
  refine wS_set rfl rfl rfl (n_eqlT (a := at8 a (i - 1)) (b := at8 b j) h4 rfl rfl) ?_
  refine wS_set rfl rfl rfl (a_pickT rfl rfl) ?_
  refine wO_nil ⟨rfl, by kernel_rfl, ?_⟩
  refine wC_cond (p := true) rfl (fun _ => ?_) (fun hc => absurd hc (by decide))
  refine wC_regD (by kernel_rfl) ?_
  refine wS_set rfl rfl rfl (a_move rfl rfl) ?_
  refine wS_set rfl rfl rfl (a_move rfl rfl) ?_
  refine wS_set rfl rfl rfl (a_move rfl rfl) ?_
  refine wS_set rfl rfl rfl (a_move rfl rfl) ?_
  refine wS_set rfl rfl rfl (n_indexAddrP (a := j + 1) rfl rfl rfl (hT rfl) rfl (hT rfl) rfl (by omega)) ?_
  refine wS_set rfl rfl rfl (a_loadI (by omega) rfl rfl (hT rfl) rfl) ?_
  refine wS_set rfl rfl rfl (a_move rfl rfl) ?_
  refine wS_set rfl rfl rfl (a_move rfl rfl) ?_
  refine wS_set rfl rfl rfl (n_sub (a := j + 1) (b := 2) rfl rfl (by omega) (by simp only [capN]; omega)) ?_
  refine wS_set rfl rfl rfl (n_indexAddrP (a := j - 1) rfl rfl rfl (hT rfl) rfl (hT rfl) rfl (by omega)) ?_
  refine wS_set rfl rfl rfl (a_loadI (by omega) rfl rfl (hT rfl) rfl) ?_
  refine wS_set rfl rfl rfl (n_add (a := A.getD (j - 1) 0) (b := 1) rfl rfl (by simp only [capN]; omega)) ?_
  refine wS_set rfl rfl rfl (n_min2 (a := (C.set (j + 1) m).getD (j + 1) 0) (b := A.getD (j - 1) 0 + 1) rfl rfl) ?_
  refine wS_set rfl rfl rfl (n_indexAddrP (a := j + 1) rfl rfl rfl (hT rfl) rfl (hT rfl) rfl (by omega)) ?_
  refine wS_eff rfl rfl (a_storeR (v := min ((C.set (j + 1) m).getD (j + 1) 0) (A.getD (j - 1) 0 + 1)) (by omega) rfl rfl rfl (hT rfl) rfl rfl) ?_
  refine wO_nil ⟨rfl, by kernel_rfl, ?_⟩
  refine hq _ _ ?_ (pinned_mk rfl ⟨rfl, rfl, rfl, rfl, rfl, rfl, rfl, trivial⟩ ⟨rfl, rfl, rfl, trivial⟩)
  rw [e2, List.set_set]
  exact isRow_set hC (by omega) hs.symm

set_option maxRecDepth 100000 in
theorem inner2 {a b : ByteArray} (hla : a.size ≤ 1000) (hlb : b.size ≤ 1000) {i j : Nat} (hi : i < a.size) (hj : j < b.size) {A R C : List Nat} (hA : A.length = b.size + 1) (hA2 : 1 ≤ i → isRow (b.size + 1) A (osa (at8 a) (at8 b) (i - 1)) (b.size + 1))
    (hR : isRow (b.size + 1) R (osa (at8 a) (at8 b) i) (b.size + 1)) (hC : isRow (b.size + 1) C (osa (at8 a) (at8 b) (i + 1)) (j + 1)) {Q : Ex → St → Prop} {cd : Code} {ρ0 : St}
    (hρ0 : PinSt 131 [(0, .v (.lit (.string a))), (1, .v (.lit (.string b))), (5, .own 23 1 0 (b.size + 1)), (6, .own 15 1 0 (b.size + 1)), (7, .own 19 1 0 (b.size + 1)), (9, natX .i64 (i + 1)), (10, natX .i64 (j + 1))] [(23, .row 1 true 1 (rowI A)), (15, .row 1 true 1 (rowI R)), (19, .row 1 true 1 (rowI C))] ρ0) (hcd : cd = codeIn)
    (hq : ∀ C' ρ, isRow (b.size + 1) C' (osa (at8 a) (at8 b) (i + 1)) (j + 1 + 1) → PinSt 131 [(0, .v (.lit (.string a))), (1, .v (.lit (.string b))), (5, .own 23 1 0 (b.size + 1)), (6, .own 15 1 0 (b.size + 1)), (7, .own 19 1 0 (b.size + 1)), (9, natX .i64 (i + 1)), (10, natX .i64 (j + 1))] [(23, .row 1 true 1 (rowI A)), (15, .row 1 true 1 (rowI R)), (19, .row 1 true 1 (rowI C'))] ρ → Q .normal ρ) :
    wpC tab ext cd ρ0 Q := by
  subst hcd
  replace hρ0 := hρ0.form
  obtain ⟨g, h, rfl⟩ := hρ0
  have hCl := hC.1
  have hRl := hR.1
  have l1 := osa_le (a := at8 a) (b := at8 b) (i + j) i j (Nat.le_refl _)
  have l2 := osa_le (a := at8 a) (b := at8 b) (i + j + 1) i (j + 1) (by omega)
  have l3 := osa_le (a := at8 a) (b := at8 b) (i + j + 1) (i + 1) j (by omega)
  have l4 := osa_le (a := at8 a) (b := at8 b) (i + j) (i - 1) (j - 1) (by omega)
  have r1 : R.getD j 0 = osa (at8 a) (at8 b) i j := hR.2 j (by omega)
  have r2 : R.getD (j + 1) 0 = osa (at8 a) (at8 b) i (j + 1) := hR.2 (j + 1) (by omega)
  have r3 : C.getD j 0 = osa (at8 a) (at8 b) (i + 1) j := hC.2 j (by omega)
  have hs := osa_s (a := at8 a) (b := at8 b) i j
  refine wC_seq ?_
  refine wC_reg ?_
  refine wS_set rfl rfl rfl (a_move rfl rfl) ?_
  refine wS_set rfl rfl rfl (a_move rfl rfl) ?_
  refine wS_set rfl rfl rfl (n_sub (a := j + 1) (b := 1) rfl rfl (by omega) (by simp only [capN]; omega)) ?_
  refine wS_set rfl rfl rfl (n_indexAddrP (a := j) rfl rfl rfl (hT rfl) rfl (hT rfl) rfl (by omega)) ?_
  refine wS_set rfl rfl rfl (a_loadI (by omega) rfl rfl (hT rfl) rfl) ?_
  refine wS_set rfl rfl rfl (a_assign rfl rfl) ?_
  refine wO_nil ?_
  refine wC_cut (fun ρ => PinSt 131 [(0, .v (.lit (.string a))), (1, .v (.lit (.string b))), (5, .own 23 1 0 (b.size + 1)), (6, .own 15 1 0 (b.size + 1)), (7, .own 19 1 0 (b.size + 1)), (9, natX .i64 (i + 1)), (10, natX .i64 (j + 1)), (11, natX .i64 (osa (at8 a) (at8 b) i j + (if at8 a i = at8 b j then 0 else 1)))] [(23, .row 1 true 1 (rowI A)), (15, .row 1 true 1 (rowI R)), (19, .row 1 true 1 (rowI C))] ρ) ?_ fun ρ' hI => ?_
  · refine wC_seq ?_
    refine wC_regD (by kernel_rfl) ?_
    refine wS_set rfl rfl rfl (a_move rfl rfl) ?_
    refine wS_set rfl rfl rfl (a_move rfl rfl) ?_
    refine wS_set rfl rfl rfl (n_sub (a := i + 1) (b := 1) rfl rfl (by omega) (by simp only [capN]; omega)) ?_
    refine wS_set rfl rfl rfl (n_byteAt (a := i) (by omega) rfl rfl (hT rfl) rfl) ?_
    refine wS_set rfl rfl rfl (a_move rfl rfl) ?_
    refine wS_set rfl rfl rfl (a_move rfl rfl) ?_
    refine wS_set rfl rfl rfl (n_sub (a := j + 1) (b := 1) rfl rfl (by omega) (by simp only [capN]; omega)) ?_
    refine wS_set rfl rfl rfl (n_byteAt (a := j) (by omega) rfl rfl (hT rfl) rfl) ?_
    refine wS_set rfl rfl rfl (n_neq (a := at8 a i) (b := at8 b j) rfl rfl) ?_
    refine wO_nil ⟨rfl, by kernel_rfl, ?_⟩
    refine wC_cond rfl (fun hc => ?_) (fun hc => ?_)
    · have hne : ¬ at8 a i = at8 b j := of_decide_eq_true hc
      refine wC_reg ?_
      refine wS_set rfl rfl rfl (a_move rfl rfl) ?_
      refine wS_set rfl rfl rfl (n_add (a := R.getD j 0) (b := 1) rfl rfl (by simp only [capN]; omega)) ?_
      refine wS_set rfl rfl rfl (a_assign rfl rfl) ?_
      refine wO_nil ?_
      exact ⟨rfl, pinned_mk rfl ⟨rfl, rfl, rfl, rfl, rfl, rfl, rfl, by rw [if_neg hne, ← r1]; rfl, trivial⟩ ⟨rfl, rfl, rfl, trivial⟩⟩
    · have he : at8 a i = at8 b j := Classical.not_not.1 (of_decide_eq_false hc)
      refine wC_skip ?_
      exact ⟨rfl, pinned_mk rfl ⟨rfl, rfl, rfl, rfl, rfl, rfl, rfl, by rw [if_pos he, Nat.add_zero, ← r1]; rfl, trivial⟩ ⟨rfl, rfl, rfl, trivial⟩⟩
  clear g h
  replace hI := hI.form
  obtain ⟨g, h, rfl⟩ := hI
  have hcc : (if at8 a i = at8 b j then 0 else 1) ≤ 1 := by split <;> omega
  generalize hcdef : (if at8 a i = at8 b j then 0 else 1) = c at hs hcc ⊢
  refine wC_seq ?_
  refine wC_regD (by kernel_rfl) ?_
  refine wS_set rfl rfl rfl (a_move rfl rfl) ?_
  refine wS_set rfl rfl rfl (a_move rfl rfl) ?_
  refine wS_set rfl rfl rfl (a_move rfl rfl) ?_
  refine wS_set rfl rfl rfl (a_move rfl rfl) ?_
  refine wS_set rfl rfl rfl (a_move rfl rfl) ?_
  refine wS_set rfl rfl rfl (n_indexAddrP (a := j + 1) rfl rfl rfl (hT rfl) rfl (hT rfl) rfl (by omega)) ?_
  refine wS_set rfl rfl rfl (a_loadI (by omega) rfl rfl (hT rfl) rfl) ?_
  refine wS_set rfl rfl rfl (n_add (a := R.getD (j + 1) 0) (b := 1) rfl rfl (by simp only [capN]; omega)) ?_
  refine wS_set rfl rfl rfl (a_move rfl rfl) ?_
  refine wS_set rfl rfl rfl (a_move rfl rfl) ?_
  refine wS_set rfl rfl rfl (n_sub (a := j + 1) (b := 1) rfl rfl (by omega) (by simp only [capN]; omega)) ?_
  refine wS_set rfl rfl rfl (n_indexAddrP (a := j) rfl rfl rfl (hT rfl) rfl (hT rfl) rfl (by omega)) ?_
  refine wS_set rfl rfl rfl (a_loadI (by omega) rfl rfl (hT rfl) rfl) ?_
  refine wS_set rfl rfl rfl (n_add (a := C.getD j 0) (b := 1) rfl rfl (by simp only [capN]; omega)) ?_
  refine wS_set rfl rfl rfl (n_min3 (a := osa (at8 a) (at8 b) i j + c) (b := R.getD (j + 1) 0 + 1) (c := C.getD j 0 + 1) rfl rfl rfl) ?_
  refine wS_set rfl rfl rfl (n_indexAddrP (a := j + 1) rfl rfl rfl (hT rfl) rfl (hT rfl) rfl (by omega)) ?_
  refine wS_eff rfl rfl (a_storeR (v := min (min (osa (at8 a) (at8 b) i j + c) (R.getD (j + 1) 0 + 1)) (C.getD j 0 + 1)) (by omega) rfl rfl rfl (hT rfl) rfl rfl) ?_
  refine wO_nil ⟨rfl, by kernel_rfl, ?_⟩
  rw [← r2, ← r3] at hs
  by_cases h1 : 1 ≤ i
  case neg =>
    have hsw : ¬ (1 ≤ i ∧ 1 ≤ j ∧ at8 a i = at8 b (j - 1) ∧ at8 a (i - 1) = at8 b j) := fun x => h1 x.1
    rw [if_neg hsw] at hs
    refine wC_seq ?_
    refine wC_regD (by kernel_rfl) ?_
    refine wS_set rfl rfl rfl (a_move rfl rfl) ?_
    refine wS_set rfl rfl rfl (n_gtrF (a := i + 1) (b := 1) (by omega) rfl rfl) ?_
    refine wS_set rfl rfl rfl (a_move rfl rfl) ?_
    refine wS_skip rfl rfl rfl ?_
    refine wS_skip rfl rfl rfl ?_
    refine wS_set rfl rfl rfl (a_pickF rfl rfl) ?_
    refine wS_set rfl rfl rfl (a_move rfl rfl) ?_
    refine wS_skip rfl rfl rfl ?_
    refine wS_skip rfl rfl rfl ?_
    refine wS_skip rfl rfl rfl ?_
    refine wS_skip rfl rfl rfl ?_
    refine wS_skip rfl rfl rfl ?_
    refine wS_skip rfl rfl rfl ?_
    refine wS_skip rfl rfl rfl ?_
    refine wS_skip rfl rfl rfl ?_
    refine wS_skip rfl rfl rfl ?_
    refine wS_set rfl rfl rfl (a_pickF rfl rfl) ?_
    refine wS_set rfl rfl rfl (a_move rfl rfl) ?_
    refine wS_skip rfl rfl rfl ?_
    refine wS_skip rfl rfl rfl ?_
    refine wS_skip rfl rfl rfl ?_
    refine wS_skip rfl rfl rfl ?_
    refine wS_skip rfl rfl rfl ?_
    refine wS_skip rfl rfl rfl ?_
    refine wS_skip rfl rfl rfl ?_
    refine wS_skip rfl rfl rfl ?_
    refine wS_skip rfl rfl rfl ?_
    refine wS_set rfl rfl rfl (a_pickF rfl rfl) ?_
    refine wO_nil ⟨rfl, by kernel_rfl, ?_⟩
    refine wC_cond (p := false) rfl (fun hc => absurd hc (by decide)) (fun _ => ?_)
    refine wC_skip ?_
    exact hq _ _ (isRow_set hC (by omega) hs.symm) (pinned_mk rfl ⟨rfl, rfl, rfl, rfl, rfl, rfl, rfl, trivial⟩ ⟨rfl, rfl, rfl, trivial⟩)
  by_cases h2 : 1 ≤ j
  case neg =>
    have hsw : ¬ (1 ≤ i ∧ 1 ≤ j ∧ at8 a i = at8 b (j - 1) ∧ at8 a (i - 1) = at8 b j) := fun x => h2 x.2.1
    rw [if_neg hsw] at hs
    refine wC_seq ?_
    refine wC_regD (by kernel_rfl) ?_
    refine wS_set rfl rfl rfl (a_move rfl rfl) ?_
    refine wS_set rfl rfl rfl (n_gtrT (a := i + 1) (b := 1) (by omega) rfl rfl) ?_
    refine wS_set rfl rfl rfl (a_move rfl rfl) ?_
    refine wS_set rfl rfl rfl (a_move rfl rfl) ?_
    refine wS_set rfl rfl rfl (n_gtrF (a := j + 1) (b := 1) (by omega) rfl rfl) ?_
    refine wS_set rfl rfl rfl (a_pickT rfl rfl) ?_
    refine wS_set rfl rfl rfl (a_move rfl rfl) ?_
    refine wS_skip rfl rfl rfl ?_
    refine wS_skip rfl rfl rfl ?_
    refine wS_skip rfl rfl rfl ?_
    refine wS_skip rfl rfl rfl ?_
    refine wS_skip rfl rfl rfl ?_
    refine wS_skip rfl rfl rfl ?_
    refine wS_skip rfl rfl rfl ?_
    refine wS_skip rfl rfl rfl ?_
    refine wS_skip rfl rfl rfl ?_
    refine wS_set rfl rfl rfl (a_pickF rfl rfl) ?_
    refine wS_set rfl rfl rfl (a_move rfl rfl) ?_
    refine wS_skip rfl rfl rfl ?_
    refine wS_skip rfl rfl rfl ?_
    refine wS_skip rfl rfl rfl ?_
    refine wS_skip rfl rfl rfl ?_
    refine wS_skip rfl rfl rfl ?_
    refine wS_skip rfl rfl rfl ?_
    refine wS_skip rfl rfl rfl ?_
    refine wS_skip rfl rfl rfl ?_
    refine wS_skip rfl rfl rfl ?_
    refine wS_set rfl rfl rfl (a_pickF rfl rfl) ?_
    refine wO_nil ⟨rfl, by kernel_rfl, ?_⟩
    refine wC_cond (p := false) rfl (fun hc => absurd hc (by decide)) (fun _ => ?_)
    refine wC_skip ?_
    exact hq _ _ (isRow_set hC (by omega) hs.symm) (pinned_mk rfl ⟨rfl, rfl, rfl, rfl, rfl, rfl, rfl, trivial⟩ ⟨rfl, rfl, rfl, trivial⟩)
  by_cases h3 : at8 a i = at8 b (j - 1)
  case neg =>
    have hsw : ¬ (1 ≤ i ∧ 1 ≤ j ∧ at8 a i = at8 b (j - 1) ∧ at8 a (i - 1) = at8 b j) := fun x => h3 x.2.2.1
    rw [if_neg hsw] at hs
    refine wC_seq ?_
    refine wC_regD (by kernel_rfl) ?_
    refine wS_set rfl rfl rfl (a_move rfl rfl) ?_
    refine wS_set rfl rfl rfl (n_gtrT (a := i + 1) (b := 1) (by omega) rfl rfl) ?_
    refine wS_set rfl rfl rfl (a_move rfl rfl) ?_
    refine wS_set rfl rfl rfl (a_move rfl rfl) ?_
    refine wS_set rfl rfl rfl (n_gtrT (a := j + 1) (b := 1) (by omega) rfl rfl) ?_
    refine wS_set rfl rfl rfl (a_pickT rfl rfl) ?_
    refine wS_set rfl rfl rfl (a_move rfl rfl) ?_
    refine wS_set rfl rfl rfl (a_move rfl rfl) ?_
    refine wS_set rfl rfl rfl (a_move rfl rfl) ?_
    refine wS_set rfl rfl rfl (n_sub (a := i + 1) (b := 1) rfl rfl (by omega) (by simp only [capN]; omega)) ?_
    refine wS_set rfl rfl rfl (n_byteAt (a := i) (by omega) rfl rfl (hT rfl) rfl) ?_
    refine wS_set rfl rfl rfl (a_move rfl rfl) ?_
    refine wS_set rfl rfl rfl (a_move rfl rfl) ?_
    refine wS_set rfl rfl rfl (n_sub (a := j + 1) (b := 2) rfl rfl (by omega) (by simp only [capN]; omega)) ?_
    refine wS_set rfl rfl rfl (n_byteAt (a := j - 1) (by omega) rfl rfl (hT rfl) rfl) ?_
    refine wS_set rfl rfl rfl (n_eqlF (a := at8 a i) (b := at8 b (j - 1)) h3 rfl rfl) ?_
    refine wS_set rfl rfl rfl (a_pickT rfl rfl) ?_
    refine wS_set rfl rfl rfl (a_move rfl rfl) ?_
    refine wS_skip rfl rfl rfl ?_
    refine wS_skip rfl rfl rfl ?_
    refine wS_skip rfl rfl rfl ?_
    refine wS_skip rfl rfl rfl ?_
    refine wS_skip rfl rfl rfl ?_
    refine wS_skip rfl rfl rfl ?_
    refine wS_skip rfl rfl rfl ?_
    refine wS_skip rfl rfl rfl ?_
    refine wS_skip rfl rfl rfl ?_
    refine wS_set rfl rfl rfl (a_pickF rfl rfl) ?_
    refine wO_nil ⟨rfl, by kernel_rfl, ?_⟩
    refine wC_cond (p := false) rfl (fun hc => absurd hc (by decide)) (fun _ => ?_)
    refine wC_skip ?_
    exact hq _ _ (isRow_set hC (by omega) hs.symm) (pinned_mk rfl ⟨rfl, rfl, rfl, rfl, rfl, rfl, rfl, trivial⟩ ⟨rfl, rfl, rfl, trivial⟩)
  by_cases h4 : at8 a (i - 1) = at8 b j
  case neg =>
    have hsw : ¬ (1 ≤ i ∧ 1 ≤ j ∧ at8 a i = at8 b (j - 1) ∧ at8 a (i - 1) = at8 b j) := fun x => h4 x.2.2.2
    rw [if_neg hsw] at hs
    refine wC_seq ?_
    refine wC_regD (by kernel_rfl) ?_
    refine wS_set rfl rfl rfl (a_move rfl rfl) ?_
    refine wS_set rfl rfl rfl (n_gtrT (a := i + 1) (b := 1) (by omega) rfl rfl) ?_
    refine wS_set rfl rfl rfl (a_move rfl rfl) ?_
    refine wS_set rfl rfl rfl (a_move rfl rfl) ?_
    refine wS_set rfl rfl rfl (n_gtrT (a := j + 1) (b := 1) (by omega) rfl rfl) ?_
    refine wS_set rfl rfl rfl (a_pickT rfl rfl) ?_
    refine wS_set rfl rfl rfl (a_move rfl rfl) ?_
    refine wS_set rfl rfl rfl (a_move rfl rfl) ?_
    refine wS_set rfl rfl rfl (a_move rfl rfl) ?_
    refine wS_set rfl rfl rfl (n_sub (a := i + 1) (b := 1) rfl rfl (by omega) (by simp only [capN]; omega)) ?_
    refine wS_set rfl rfl rfl (n_byteAt (a := i) (by omega) rfl rfl (hT rfl) rfl) ?_
    refine wS_set rfl rfl rfl (a_move rfl rfl) ?_
    refine wS_set rfl rfl rfl (a_move rfl rfl) ?_
    refine wS_set rfl rfl rfl (n_sub (a := j + 1) (b := 2) rfl rfl (by omega) (by simp only [capN]; omega)) ?_
    refine wS_set rfl rfl rfl (n_byteAt (a := j - 1) (by omega) rfl rfl (hT rfl) rfl) ?_
    refine wS_set rfl rfl rfl (n_eqlT (a := at8 a i) (b := at8 b (j - 1)) h3 rfl rfl) ?_
    refine wS_set rfl rfl rfl (a_pickT rfl rfl) ?_
    refine wS_set rfl rfl rfl (a_move rfl rfl) ?_
    refine wS_set rfl rfl rfl (a_move rfl rfl) ?_
    refine wS_set rfl rfl rfl (a_move rfl rfl) ?_
    refine wS_set rfl rfl rfl (n_sub (a := i + 1) (b := 2) rfl rfl (by omega) (by simp only [capN]; omega)) ?_
    refine wS_set rfl rfl rfl (n_byteAt (a := i - 1) (by omega) rfl rfl (hT rfl) rfl) ?_
    refine wS_set rfl rfl rfl (a_move rfl rfl) ?_
    refine wS_set rfl rfl rfl (a_move rfl rfl) ?_
    refine wS_set rfl rfl rfl (n_sub (a := j + 1) (b := 1) rfl rfl (by omega) (by simp only [capN]; omega)) ?_
    refine wS_set rfl rfl rfl (n_byteAt (a := j) (by omega) rfl rfl (hT rfl) rfl) ?_
    refine wS_set rfl rfl rfl (n_eqlF (a := at8 a (i - 1)) (b := at8 b j) h4 rfl rfl) ?_
    refine wS_set rfl rfl rfl (a_pickT rfl rfl) ?_
    refine wO_nil ⟨rfl, by kernel_rfl, ?_⟩
    refine wC_cond (p := false) rfl (fun hc => absurd hc (by decide)) (fun _ => ?_)
    refine wC_skip ?_
    exact hq _ _ (isRow_set hC (by omega) hs.symm) (pinned_mk rfl ⟨rfl, rfl, rfl, rfl, rfl, rfl, rfl, trivial⟩ ⟨rfl, rfl, rfl, trivial⟩)
  rw [if_pos ⟨h1, h2, h3, h4⟩] at hs
  have r4 : A.getD (j - 1) 0 = osa (at8 a) (at8 b) (i - 1) (j - 1) := (hA2 h1).2 (j - 1) (by omega)
  rw [← r4] at hs
  generalize hm : min (min (osa (at8 a) (at8 b) i j + c) (R.getD (j + 1) 0 + 1)) (C.getD j 0 + 1) = m at hs ⊢
  have e1 : (C.set (j + 1) m).length = b.size + 1 := by rw [List.length_set]; exact hCl
  have e2 : (C.set (j + 1) m).getD (j + 1) 0 = m := getD_set_self (by omega)
  refine wC_seq ?_
  refine wC_regD (by kernel_rfl) ?_
  refine wS_set rfl rfl rfl (a_move rfl rfl) ?_
  refine wS_set rfl rfl rfl (n_gtrT (a := i + 1) (b := 1) (by omega) rfl rfl) ?_
  refine wS_set rfl rfl rfl (a_move rfl rfl) ?_
  refine wS_set rfl rfl rfl (a_move rfl rfl) ?_
  refine wS_set rfl rfl rfl (n_gtrT (a := j + 1) (b := 1) (by omega) rfl rfl) ?_
  refine wS_set rfl rfl rfl (a_pickT rfl rfl) ?_
  refine wS_set rfl rfl rfl (a_move rfl rfl) ?_
  refine wS_set rfl rfl rfl (a_move rfl rfl) ?_
  refine wS_set rfl rfl rfl (a_move rfl rfl) ?_
  refine wS_set rfl rfl rfl (n_sub (a := i + 1) (b := 1) rfl rfl (by omega) (by simp only [capN]; omega)) ?_
  refine wS_set rfl rfl rfl (n_byteAt (a := i) (by omega) rfl rfl (hT rfl) rfl) ?_
  refine wS_set rfl rfl rfl (a_move rfl rfl) ?_
  refine wS_set rfl rfl rfl (a_move rfl rfl) ?_
  refine wS_set rfl rfl rfl (n_sub (a := j + 1) (b := 2) rfl rfl (by omega) (by simp only [capN]; omega)) ?_
  refine wS_set rfl rfl rfl (n_byteAt (a := j - 1) (by omega) rfl rfl (hT rfl) rfl) ?_
  refine wS_set rfl rfl rfl (n_eqlT (a := at8 a i) (b := at8 b (j - 1)) h3 rfl rfl) ?_
  refine wS_set rfl rfl rfl (a_pickT rfl rfl) ?_
  refine wS_set rfl rfl rfl (a_move rfl rfl) ?_
  refine wS_set rfl rfl rfl (a_move rfl rfl) ?_
  refine wS_set rfl rfl rfl (a_move rfl rfl) ?_
  refine wS_set rfl rfl rfl (n_sub (a := i + 1) (b := 2) rfl rfl (by omega) (by simp only [capN]; omega)) ?_
  refine wS_set rfl rfl rfl (n_byteAt (a := i - 1) (by omega) rfl rfl (hT rfl) rfl) ?_
  refine wS_set rfl rfl rfl (a_move rfl rfl) ?_
  refine wS_set rfl rfl rfl (a_move rfl rfl) ?_
  refine wS_set rfl rfl rfl (n_sub (a := j + 1) (b := 1) rfl rfl (by omega) (by simp only [capN]; omega)) ?_
  refine wS_set rfl rfl rfl (n_byteAt (a := j) (by omega) rfl rfl (hT rfl) rfl) ?_
  refine wS_set rfl rfl rfl (n_eqlT (a := at8 a (i - 1)) (b := at8 b j) h4 rfl rfl) ?_
  refine wS_set rfl rfl rfl (a_pickT rfl rfl) ?_
  refine wO_nil ⟨rfl, by kernel_rfl, ?_⟩
  refine wC_cond (p := true) rfl (fun _ => ?_) (fun hc => absurd hc (by decide))
  refine wC_regD (by kernel_rfl) ?_
  refine wS_set rfl rfl rfl (a_move rfl rfl) ?_
  refine wS_set rfl rfl rfl (a_move rfl rfl) ?_
  refine wS_set rfl rfl rfl (a_move rfl rfl) ?_
  refine wS_set rfl rfl rfl (a_move rfl rfl) ?_
  refine wS_set rfl rfl rfl (n_indexAddrP (a := j + 1) rfl rfl rfl (hT rfl) rfl (hT rfl) rfl (by omega)) ?_
  refine wS_set rfl rfl rfl (a_loadI (by omega) rfl rfl (hT rfl) rfl) ?_
  refine wS_set rfl rfl rfl (a_move rfl rfl) ?_
  refine wS_set rfl rfl rfl (a_move rfl rfl) ?_
  refine wS_set rfl rfl rfl (n_sub (a := j + 1) (b := 2) rfl rfl (by omega) (by simp only [capN]; omega)) ?_
  refine wS_set rfl rfl rfl (n_indexAddrP (a := j - 1) rfl rfl rfl (hT rfl) rfl (hT rfl) rfl (by omega)) ?_
  refine wS_set rfl rfl rfl (a_loadI (by omega) rfl rfl (hT rfl) rfl) ?_
  refine wS_set rfl rfl rfl (n_add (a := A.getD (j - 1) 0) (b := 1) rfl rfl (by simp only [capN]; omega)) ?_
  refine wS_set rfl rfl rfl (n_min2 (a := (C.set (j + 1) m).getD (j + 1) 0) (b := A.getD (j - 1) 0 + 1) rfl rfl) ?_
  refine wS_set rfl rfl rfl (n_indexAddrP (a := j + 1) rfl rfl rfl (hT rfl) rfl (hT rfl) rfl (by omega)) ?_
  refine wS_eff rfl rfl (a_storeR (v := min ((C.set (j + 1) m).getD (j + 1) 0) (A.getD (j - 1) 0 + 1)) (by omega) rfl rfl rfl (hT rfl) rfl rfl) ?_
  refine wO_nil ⟨rfl, by kernel_rfl, ?_⟩
  refine hq _ _ ?_ (pinned_mk rfl ⟨rfl, rfl, rfl, rfl, rfl, rfl, rfl, trivial⟩ ⟨rfl, rfl, rfl, trivial⟩)
  rw [e2, List.set_set]
  exact isRow_set hC (by omega) hs.symm

end Go.Proofs.Ytmmgcodoimpklaa

namespace Go.Proofs.Ytmmgcodoimpklaa
open Go.Dv

theorem rowI_rep (n : Nat) : rowI (List.replicate n 0) = List.replicate n [natV 0] := by simp [rowI]

set_option maxRecDepth 100000 in
theorem ev7 {a b : ByteArray} (hla : a.size ≤ 1000) (hlb : b.size ≤ 1000) : FnEv tab ext 7 [.v (strV a), .v (strV b)] [] (.ret [natV (osa (at8 a) (at8 b) a.size b.size)], []) := by
  refine fn_go _ no7 fn7 rfl rfl rfl ?_
  refine wC_seq ?_
  refine wC_reg ?_
  refine wS_set rfl rfl rfl (a_assign rfl rfl) ?_
  refine wO_nil ?_
  refine wC_seq ?_
  refine wC_regD (by kernel_rfl) ?_
  refine wS_set rfl rfl rfl (a_move rfl rfl) ?_
  refine wS_set rfl rfl rfl (a_lenStr rfl rfl (hT rfl) rfl) ?_
  refine wS_set rfl rfl rfl (n_add (a := b.size) (b := 1) rfl rfl (by simp only [capN]; omega)) ?_
  refine wS_set rfl rfl rfl (a_make (n := b.size + 1) rfl rfl (hT rfl) rfl (hT rfl) rfl rfl (by simp only [big]; omega) rfl rfl) ?_
  refine wS_set rfl rfl rfl (a_move rfl rfl) ?_
  refine wS_set rfl rfl rfl (a_lenStr rfl rfl (hT rfl) rfl) ?_
  refine wS_set rfl rfl rfl (n_add (a := b.size) (b := 1) rfl rfl (by simp only [capN]; omega)) ?_
  refine wS_set rfl rfl rfl (a_make (n := b.size + 1) rfl rfl (hT rfl) rfl (hT rfl) rfl rfl (by simp only [big]; omega) rfl rfl) ?_
  refine wS_set rfl rfl rfl (a_move rfl rfl) ?_
  refine wS_set rfl rfl rfl (a_lenStr rfl rfl (hT rfl) rfl) ?_
  refine wS_set rfl rfl rfl (n_add (a := b.size) (b := 1) rfl rfl (by simp only [capN]; omega)) ?_
  refine wS_set rfl rfl rfl (a_make (n := b.size + 1) rfl rfl (hT rfl) rfl (hT rfl) rfl rfl (by simp only [big]; omega) rfl rfl) ?_
  refine wS_set rfl rfl rfl (a_assign rfl rfl) ?_
  refine wS_set rfl rfl rfl (a_assign rfl rfl) ?_
  refine wS_set rfl rfl rfl (a_assign rfl rfl) ?_
  refine wO_nil ⟨rfl, by kernel_rfl, ?_⟩
  refine wC_seq ?_
  refine wC_seq ?_
  refine wC_reg ?_
  refine wS_set rfl rfl rfl (a_move rfl rfl) ?_
  refine wS_set rfl rfl rfl (a_lenO rfl rfl (hT rfl) rfl) ?_
  refine wS_set rfl rfl rfl (a_move rfl rfl) ?_
  refine wO_nil ?_
  refine wC_block ?_
  refine wC_loop (fun k ρ => ∃ j, j + k = b.size + 1 ∧ ∃ C, isRow (b.size + 1) C (fun x => x) j ∧ PinSt 131 [(0, .v (.lit (.string a))), (1, .v (.lit (.string b))), (5, .own 15 1 0 (b.size + 1)), (6, .own 19 1 0 (b.size + 1)), (7, .own 23 1 0 (b.size + 1)), (25, natX .i64 (b.size + 1)), (26, natX .i64 j)] [(15, .row 1 true 1 (List.replicate (b.size + 1) [natV 0])), (19, .row 1 true 1 (List.replicate (b.size + 1) [natV 0])), (23, .row 1 true 1 (rowI C))] ρ) (fun k ρ hi => ?_) (b.size + 1)
    ⟨0, by omega, List.replicate (b.size + 1) 0, ⟨List.length_replicate, fun k hk => absurd hk (Nat.not_lt_zero _)⟩, pinned_mk rfl ⟨rfl, rfl, rfl, rfl, rfl, rfl, rfl, trivial⟩ ⟨rfl, rfl, by rw [rowI_rep]; rfl, trivial⟩⟩
  obtain ⟨j, hm, C, hC, hi⟩ := hi
  replace hi := hi.form
  obtain ⟨g, h, rfl⟩ := hi
  have hCl := hC.1
  refine wC_seq ?_
  refine wC_reg ?_
  refine wS_set rfl rfl rfl (n_lss rfl rfl ) ?_
  refine wO_nil ?_
  refine wC_seq ?_
  refine wC_cond rfl (fun hc => ?_) (fun hc => ?_)
  · have hj : j < b.size + 1 := of_decide_eq_true hc
    refine wC_skip ?_
    refine wC_seq ?_
    refine wC_block ?_
    refine wC_seq ?_
    refine wC_reg ?_
    refine wS_set rfl rfl rfl (a_move rfl rfl) ?_
    refine wS_set rfl rfl rfl (a_assign rfl rfl) ?_
    refine wO_nil ?_
    refine wC_reg ?_
    refine wS_set rfl rfl rfl (a_move rfl rfl) ?_
    refine wS_set rfl rfl rfl (a_move rfl rfl) ?_
    refine wS_set rfl rfl rfl (a_move rfl rfl) ?_
    refine wS_set rfl rfl rfl (n_indexAddrP rfl rfl rfl (hT rfl) rfl (hT rfl) rfl (by omega)) ?_
    refine wS_eff rfl rfl (a_storeR (v := j) (by omega) rfl rfl rfl (hT rfl) rfl rfl) ?_
    refine wO_nil ?_
    refine wC_reg ?_
    refine wS_set rfl rfl rfl (n_add (b := 1) rfl rfl (by simp only [capN]; omega)) ?_
    refine wS_set rfl rfl rfl (a_move rfl rfl) ?_
    refine wO_nil ?_
    exact ⟨k - 1, by omega, j + 1, by omega, _, isRow_set hC (by omega) rfl, pinned_mk rfl ⟨rfl, rfl, rfl, rfl, rfl, rfl, rfl, trivial⟩ ⟨rfl, rfl, rfl, trivial⟩⟩
  have hj : ¬ j < b.size + 1 := of_decide_eq_false hc
  refine wC_exit ?_
  refine wC_seq ?_
  refine wC_seq ?_
  refine wC_reg ?_
  refine wS_set rfl rfl rfl (a_assign rfl rfl) ?_
  refine wO_nil ?_
  refine wC_block ?_
  refine wC_loop (fun k ρ => ∃ i, i + k = a.size ∧ ∃ A R B : List Nat, A.length = b.size + 1 ∧ (1 ≤ i → isRow (b.size + 1) A (osa (at8 a) (at8 b) (i - 1)) (b.size + 1)) ∧ isRow (b.size + 1) R (osa (at8 a) (at8 b) i) (b.size + 1) ∧ B.length = b.size + 1 ∧
      (PinSt 131 [(0, .v (.lit (.string a))), (1, .v (.lit (.string b))), (5, .own 15 1 0 (b.size + 1)), (6, .own 19 1 0 (b.size + 1)), (7, .own 23 1 0 (b.size + 1)), (9, natX .i64 (i + 1))] [(15, .row 1 true 1 (rowI B)), (19, .row 1 true 1 (rowI A)), (23, .row 1 true 1 (rowI R))] ρ ∨ PinSt 131 [(0, .v (.lit (.string a))), (1, .v (.lit (.string b))), (5, .own 19 1 0 (b.size + 1)), (6, .own 23 1 0 (b.size + 1)), (7, .own 15 1 0 (b.size + 1)), (9, natX .i64 (i + 1))] [(19, .row 1 true 1 (rowI B)), (23, .row 1 true 1 (rowI A)), (15, .row 1 true 1 (rowI R))] ρ ∨ PinSt 131 [(0, .v (.lit (.string a))), (1, .v (.lit (.string b))), (5, .own 23 1 0 (b.size + 1)), (6, .own 15 1 0 (b.size + 1)), (7, .own 19 1 0 (b.size + 1)), (9, natX .i64 (i + 1))] [(23, .row 1 true 1 (rowI B)), (15, .row 1 true 1 (rowI A)), (19, .row 1 true 1 (rowI R))] ρ)) (fun k ρ hi => ?_) a.size
    ⟨0, by omega, List.replicate (b.size + 1) 0, C, List.replicate (b.size + 1) 0, List.length_replicate, fun h => absurd h (by omega), ⟨hCl, fun k hk => by rw [osa_0]; exact hC.2 k (by omega)⟩, List.length_replicate,
      .inl (pinned_mk rfl ⟨rfl, rfl, rfl, rfl, rfl, rfl, trivial⟩ ⟨by rw [rowI_rep]; rfl, by rw [rowI_rep]; rfl, rfl, trivial⟩)⟩
  clear hm hC hCl hc hj h g
  obtain ⟨i, hm, A, R, B, hA, hA2, hR, hB, hi⟩ := hi
  have hRl := hR.1
  rcases hi with hi | hi | hi
  · replace hi := hi.form
    obtain ⟨g, h, rfl⟩ := hi
    refine wC_seq ?_
    refine wC_seq ?_
    refine wC_reg ?_
    refine wS_set rfl rfl rfl (a_move rfl rfl) ?_
    refine wS_set rfl rfl rfl (a_move rfl rfl) ?_
    refine wS_set rfl rfl rfl (a_lenStr rfl rfl (hT rfl) rfl) ?_
    refine wS_set rfl rfl rfl (n_leq rfl rfl ) ?_
    refine wO_nil ?_
    refine wC_cond rfl (fun hc => ?_) (fun hc => ?_)
    · have hia : i < a.size := of_decide_eq_true hc
      refine wC_skip ?_
      refine wC_seq ?_
      refine wC_block ?_
      refine wC_seq ?_
      refine wC_reg ?_
      refine wS_set rfl rfl rfl (a_move rfl rfl) ?_
      refine wS_set rfl rfl rfl (a_move rfl rfl) ?_
      refine wS_set rfl rfl rfl (a_move rfl rfl) ?_
      refine wS_set rfl rfl rfl (a_assign rfl rfl) ?_
      refine wS_set rfl rfl rfl (a_assign rfl rfl) ?_
      refine wS_set rfl rfl rfl (a_assign rfl rfl) ?_
      refine wO_nil ?_
      refine wC_seq ?_
      refine wC_reg ?_
      refine wS_set rfl rfl rfl (a_move rfl rfl) ?_
      refine wS_set rfl rfl rfl (a_move rfl rfl) ?_
      refine wS_set rfl rfl rfl (n_indexAddrP (a := 0) rfl rfl rfl (hT rfl) rfl (hT rfl) rfl (by omega)) ?_
      refine wS_eff rfl rfl (a_storeR (v := i + 1) (by omega) rfl rfl rfl (hT rfl) rfl rfl) ?_
      refine wO_nil ?_
      refine wC_seq ?_
      refine wC_reg ?_
      refine wS_set rfl rfl rfl (a_assign rfl rfl) ?_
      refine wO_nil ?_
      refine wC_block ?_
      refine wC_loop (fun k ρ => ∃ j, j + k = b.size ∧ ∃ C, isRow (b.size + 1) C (osa (at8 a) (at8 b) (i + 1)) (j + 1) ∧ PinSt 131 [(0, .v (.lit (.string a))), (1, .v (.lit (.string b))), (5, .own 19 1 0 (b.size + 1)), (6, .own 23 1 0 (b.size + 1)), (7, .own 15 1 0 (b.size + 1)), (9, natX .i64 (i + 1)), (10, natX .i64 (j + 1))] [(19, .row 1 true 1 (rowI A)), (23, .row 1 true 1 (rowI R)), (15, .row 1 true 1 (rowI C))] ρ) (fun k2 ρ hi => ?_) b.size
        ⟨0, by omega, _, isRow_set (l := B) (n := 0) ⟨hB, fun k hk => absurd hk (Nat.not_lt_zero _)⟩ (by omega) (by rw [osa_i0]), pinned_mk rfl ⟨rfl, rfl, rfl, rfl, rfl, rfl, rfl, trivial⟩ ⟨rfl, rfl, rfl, trivial⟩⟩
      clear g h
      obtain ⟨j, hm2, C, hC, hi⟩ := hi
      replace hi := hi.form
      obtain ⟨g, h, rfl⟩ := hi
      refine wC_seq ?_
      refine wC_seq ?_
      refine wC_reg ?_
      refine wS_set rfl rfl rfl (a_move rfl rfl) ?_
      refine wS_set rfl rfl rfl (a_move rfl rfl) ?_
      refine wS_set rfl rfl rfl (a_lenStr rfl rfl (hT rfl) rfl) ?_
      refine wS_set rfl rfl rfl (n_leq rfl rfl ) ?_
      refine wO_nil ?_
      refine wC_cond rfl (fun hc => ?_) (fun hc => ?_)
      · have hjb : j < b.size := of_decide_eq_true hc
        refine wC_skip ?_
        refine wC_seq ?_
        refine wC_block ?_
        refine inner1 hla hlb hia hjb hA hA2 hR hC (pinned_mk rfl ⟨rfl, rfl, rfl, rfl, rfl, rfl, rfl, trivial⟩ ⟨rfl, rfl, rfl, trivial⟩) (by kernel_rfl) fun C' ρ' hC' hρ => ?_
        clear g h
        replace hρ := hρ.form
        obtain ⟨g, h, rfl⟩ := hρ
        refine wC_reg ?_
        refine wS_set rfl rfl rfl (a_move rfl rfl) ?_
        refine wS_set rfl rfl rfl (n_add (b := 1) rfl rfl (by simp only [capN]; omega)) ?_
        refine wS_set rfl rfl rfl (a_assign rfl rfl) ?_
        refine wO_nil ?_
        exact ⟨k2 - 1, by omega, j + 1, by omega, C', hC', pinned_mk rfl ⟨rfl, rfl, rfl, rfl, rfl, rfl, rfl, trivial⟩ ⟨rfl, rfl, rfl, trivial⟩⟩
      · have hjb : ¬ j < b.size := of_decide_eq_false hc
        obtain rfl : j = b.size := by omega
        refine wC_exit ?_
        refine wC_reg ?_
        refine wS_set rfl rfl rfl (a_move rfl rfl) ?_
        refine wS_set rfl rfl rfl (n_add (b := 1) rfl rfl (by simp only [capN]; omega)) ?_
        refine wS_set rfl rfl rfl (a_assign rfl rfl) ?_
        refine wO_nil ?_
        exact ⟨k - 1, by omega, i + 1, by omega, R, C, A, hRl, fun _ => hR, hC, hA, .inr (.inl (pinned_mk rfl ⟨rfl, rfl, rfl, rfl, rfl, rfl, trivial⟩ ⟨rfl, rfl, rfl, trivial⟩))⟩
    · have hia : ¬ i < a.size := of_decide_eq_false hc
      obtain rfl : i = a.size := by omega
      refine wC_exit ?_
      refine wC_seq ?_
      refine wC_reg ?_
      refine wS_set rfl rfl rfl (a_move rfl rfl) ?_
      refine wS_set rfl rfl rfl (a_move rfl rfl) ?_
      refine wS_set rfl rfl rfl (a_lenStr rfl rfl (hT rfl) rfl) ?_
      refine wS_set rfl rfl rfl (n_indexAddrP (a := b.size) rfl rfl rfl (hT rfl) rfl (hT rfl) rfl (by omega)) ?_
      refine wS_set rfl rfl rfl (a_loadI (by omega) rfl rfl (hT rfl) rfl) ?_
      refine wS_set rfl rfl rfl (a_assign rfl rfl) ?_
      refine wO_nil ?_
      refine wC_ret ?_
      rw [← hR.2 b.size (by omega)]
      exact end_tmp rfl rfl
  · replace hi := hi.form
    obtain ⟨g, h, rfl⟩ := hi
    refine wC_seq ?_
    refine wC_seq ?_
    refine wC_reg ?_
    refine wS_set rfl rfl rfl (a_move rfl rfl) ?_
    refine wS_set rfl rfl rfl (a_move rfl rfl) ?_
    refine wS_set rfl rfl rfl (a_lenStr rfl rfl (hT rfl) rfl) ?_
    refine wS_set rfl rfl rfl (n_leq rfl rfl ) ?_
    refine wO_nil ?_
    refine wC_cond rfl (fun hc => ?_) (fun hc => ?_)
    · have hia : i < a.size := of_decide_eq_true hc
      refine wC_skip ?_
      refine wC_seq ?_
      refine wC_block ?_
      refine wC_seq ?_
      refine wC_reg ?_
      refine wS_set rfl rfl rfl (a_move rfl rfl) ?_
      refine wS_set rfl rfl rfl (a_move rfl rfl) ?_
      refine wS_set rfl rfl rfl (a_move rfl rfl) ?_
      refine wS_set rfl rfl rfl (a_assign rfl rfl) ?_
      refine wS_set rfl rfl rfl (a_assign rfl rfl) ?_
      refine wS_set rfl rfl rfl (a_assign rfl rfl) ?_
      refine wO_nil ?_
      refine wC_seq ?_
      refine wC_reg ?_
      refine wS_set rfl rfl rfl (a_move rfl rfl) ?_
      refine wS_set rfl rfl rfl (a_move rfl rfl) ?_
      refine wS_set rfl rfl rfl (n_indexAddrP (a := 0) rfl rfl rfl (hT rfl) rfl (hT rfl) rfl (by omega)) ?_
      refine wS_eff rfl rfl (a_storeR (v := i + 1) (by omega) rfl rfl rfl (hT rfl) rfl rfl) ?_
      refine wO_nil ?_
      refine wC_seq ?_
      refine wC_reg ?_
      refine wS_set rfl rfl rfl (a_assign rfl rfl) ?_
      refine wO_nil ?_
      refine wC_block ?_
      refine wC_loop (fun k ρ => ∃ j, j + k = b.size ∧ ∃ C, isRow (b.size + 1) C (osa (at8 a) (at8 b) (i + 1)) (j + 1) ∧ PinSt 131 [(0, .v (.lit (.string a))), (1, .v (.lit (.string b))), (5, .own 23 1 0 (b.size + 1)), (6, .own 15 1 0 (b.size + 1)), (7, .own 19 1 0 (b.size + 1)), (9, natX .i64 (i + 1)), (10, natX .i64 (j + 1))] [(23, .row 1 true 1 (rowI A)), (15, .row 1 true 1 (rowI R)), (19, .row 1 true 1 (rowI C))] ρ) (fun k2 ρ hi => ?_) b.size
        ⟨0, by omega, _, isRow_set (l := B) (n := 0) ⟨hB, fun k hk => absurd hk (Nat.not_lt_zero _)⟩ (by omega) (by rw [osa_i0]), pinned_mk rfl ⟨rfl, rfl, rfl, rfl, rfl, rfl, rfl, trivial⟩ ⟨rfl, rfl, rfl, trivial⟩⟩
      clear g h
      obtain ⟨j, hm2, C, hC, hi⟩ := hi
      replace hi := hi.form
      obtain ⟨g, h, rfl⟩ := hi
      refine wC_seq ?_
      refine wC_seq ?_
      refine wC_reg ?_
      refine wS_set rfl rfl rfl (a_move rfl rfl) ?_
      refine wS_set rfl rfl rfl (a_move rfl rfl) ?_
      refine wS_set rfl rfl rfl (a_lenStr rfl rfl (hT rfl) rfl) ?_
      refine wS_set rfl rfl rfl (n_leq rfl rfl ) ?_
      refine wO_nil ?_
      refine wC_cond rfl (fun hc => ?_) (fun hc => ?_)
      · have hjb : j < b.size := of_decide_eq_true hc
        refine wC_skip ?_
        refine wC_seq ?_
        refine wC_block ?_
        refine inner2 hla hlb hia hjb hA hA2 hR hC (pinned_mk rfl ⟨rfl, rfl, rfl, rfl, rfl, rfl, rfl, trivial⟩ ⟨rfl, rfl, rfl, trivial⟩) (by kernel_rfl) fun C' ρ' hC' hρ => ?_
        clear g h
        replace hρ := hρ.form
        obtain ⟨g, h, rfl⟩ := hρ
        refine wC_reg ?_
        refine wS_set rfl rfl rfl (a_move rfl rfl) ?_
        refine wS_set rfl rfl rfl (n_add (b := 1) rfl rfl (by simp only [capN]; omega)) ?_
        refine wS_set rfl rfl rfl (a_assign rfl rfl) ?_
        refine wO_nil ?_
        exact ⟨k2 - 1, by omega, j + 1, by omega, C', hC', pinned_mk rfl ⟨rfl, rfl, rfl, rfl, rfl, rfl, rfl, trivial⟩ ⟨rfl, rfl, rfl, trivial⟩⟩
      · have hjb : ¬ j < b.size := of_decide_eq_false hc
        obtain rfl : j = b.size := by omega
        refine wC_exit ?_
        refine wC_reg ?_
        refine wS_set rfl rfl rfl (a_move rfl rfl) ?_
        refine wS_set rfl rfl rfl (n_add (b := 1) rfl rfl (by simp only [capN]; omega)) ?_
        refine wS_set rfl rfl rfl (a_assign rfl rfl) ?_
        refine wO_nil ?_
        exact ⟨k - 1, by omega, i + 1, by omega, R, C, A, hRl, fun _ => hR, hC, hA, .inr (.inr (pinned_mk rfl ⟨rfl, rfl, rfl, rfl, rfl, rfl, trivial⟩ ⟨rfl, rfl, rfl, trivial⟩))⟩
    · have hia : ¬ i < a.size := of_decide_eq_false hc
      obtain rfl : i = a.size := by omega
      refine wC_exit ?_
      refine wC_seq ?_
      refine wC_reg ?_
      refine wS_set rfl rfl rfl (a_move rfl rfl) ?_
      refine wS_set rfl rfl rfl (a_move rfl rfl) ?_
      refine wS_set rfl rfl rfl (a_lenStr rfl rfl (hT rfl) rfl) ?_
      refine wS_set rfl rfl rfl (n_indexAddrP (a := b.size) rfl rfl rfl (hT rfl) rfl (hT rfl) rfl (by omega)) ?_
      refine wS_set rfl rfl rfl (a_loadI (by omega) rfl rfl (hT rfl) rfl) ?_
      refine wS_set rfl rfl rfl (a_assign rfl rfl) ?_
      refine wO_nil ?_
      refine wC_ret ?_
      rw [← hR.2 b.size (by omega)]
      exact end_tmp rfl rfl
  · replace hi := hi.form
    obtain ⟨g, h, rfl⟩ := hi
    refine wC_seq ?_
    refine wC_seq ?_
    refine wC_reg ?_
    refine wS_set rfl rfl rfl (a_move rfl rfl) ?_
    refine wS_set rfl rfl rfl (a_move rfl rfl) ?_
    refine wS_set rfl rfl rfl (a_lenStr rfl rfl (hT rfl) rfl) ?_
    refine wS_set rfl rfl rfl (n_leq rfl rfl ) ?_
    refine wO_nil ?_
    refine wC_cond rfl (fun hc => ?_) (fun hc => ?_)
    · have hia : i < a.size := of_decide_eq_true hc
      refine wC_skip ?_
      refine wC_seq ?_
      refine wC_block ?_
      refine wC_seq ?_
      refine wC_reg ?_
      refine wS_set rfl rfl rfl (a_move rfl rfl) ?_
      refine wS_set rfl rfl rfl (a_move rfl rfl) ?_
      refine wS_set rfl rfl rfl (a_move rfl rfl) ?_
      refine wS_set rfl rfl rfl (a_assign rfl rfl) ?_
      refine wS_set rfl rfl rfl (a_assign rfl rfl) ?_
      refine wS_set rfl rfl rfl (a_assign rfl rfl) ?_
      refine wO_nil ?_
      refine wC_seq ?_
      refine wC_reg ?_
      refine wS_set rfl rfl rfl (a_move rfl rfl) ?_
      refine wS_set rfl rfl rfl (a_move rfl rfl) ?_
      refine wS_set rfl rfl rfl (n_indexAddrP (a := 0) rfl rfl rfl (hT rfl) rfl (hT rfl) rfl (by omega)) ?_
      refine wS_eff rfl rfl (a_storeR (v := i + 1) (by omega) rfl rfl rfl (hT rfl) rfl rfl) ?_
      refine wO_nil ?_
      refine wC_seq ?_
      refine wC_reg ?_
      refine wS_set rfl rfl rfl (a_assign rfl rfl) ?_
      refine wO_nil ?_
      refine wC_block ?_
      refine wC_loop (fun k ρ => ∃ j, j + k = b.size ∧ ∃ C, isRow (b.size + 1) C (osa (at8 a) (at8 b) (i + 1)) (j + 1) ∧ PinSt 131 [(0, .v (.lit (.string a))), (1, .v (.lit (.string b))), (5, .own 15 1 0 (b.size + 1)), (6, .own 19 1 0 (b.size + 1)), (7, .own 23 1 0 (b.size + 1)), (9, natX .i64 (i + 1)), (10, natX .i64 (j + 1))] [(15, .row 1 true 1 (rowI A)), (19, .row 1 true 1 (rowI R)), (23, .row 1 true 1 (rowI C))] ρ) (fun k2 ρ hi => ?_) b.size
        ⟨0, by omega, _, isRow_set (l := B) (n := 0) ⟨hB, fun k hk => absurd hk (Nat.not_lt_zero _)⟩ (by omega) (by rw [osa_i0]), pinned_mk rfl ⟨rfl, rfl, rfl, rfl, rfl, rfl, rfl, trivial⟩ ⟨rfl, rfl, rfl, trivial⟩⟩
      clear g h
      obtain ⟨j, hm2, C, hC, hi⟩ := hi
      replace hi := hi.form
      obtain ⟨g, h, rfl⟩ := hi
      refine wC_seq ?_
      refine wC_seq ?_
      refine wC_reg ?_
      refine wS_set rfl rfl rfl (a_move rfl rfl) ?_
      refine wS_set rfl rfl rfl (a_move rfl rfl) ?_
      refine wS_set rfl rfl rfl (a_lenStr rfl rfl (hT rfl) rfl) ?_
      refine wS_set rfl rfl rfl (n_leq rfl rfl ) ?_
      refine wO_nil ?_
      refine wC_cond rfl (fun hc => ?_) (fun hc => ?_)
      · have hjb : j < b.size := of_decide_eq_true hc
        refine wC_skip ?_
        refine wC_seq ?_
        refine wC_block ?_
        refine inner0 hla hlb hia hjb hA hA2 hR hC (pinned_mk rfl ⟨rfl, rfl, rfl, rfl, rfl, rfl, rfl, trivial⟩ ⟨rfl, rfl, rfl, trivial⟩) (by kernel_rfl) fun C' ρ' hC' hρ => ?_
        clear g h
        replace hρ := hρ.form
        obtain ⟨g, h, rfl⟩ := hρ
        refine wC_reg ?_
        refine wS_set rfl rfl rfl (a_move rfl rfl) ?_
        refine wS_set rfl rfl rfl (n_add (b := 1) rfl rfl (by simp only [capN]; omega)) ?_
        refine wS_set rfl rfl rfl (a_assign rfl rfl) ?_
        refine wO_nil ?_
        exact ⟨k2 - 1, by omega, j + 1, by omega, C', hC', pinned_mk rfl ⟨rfl, rfl, rfl, rfl, rfl, rfl, rfl, trivial⟩ ⟨rfl, rfl, rfl, trivial⟩⟩
      · have hjb : ¬ j < b.size := of_decide_eq_false hc
        obtain rfl : j = b.size := by omega
        refine wC_exit ?_
        refine wC_reg ?_
        refine wS_set rfl rfl rfl (a_move rfl rfl) ?_
        refine wS_set rfl rfl rfl (n_add (b := 1) rfl rfl (by simp only [capN]; omega)) ?_
        refine wS_set rfl rfl rfl (a_assign rfl rfl) ?_
        refine wO_nil ?_
        exact ⟨k - 1, by omega, i + 1, by omega, R, C, A, hRl, fun _ => hR, hC, hA, .inl (pinned_mk rfl ⟨rfl, rfl, rfl, rfl, rfl, rfl, trivial⟩ ⟨rfl, rfl, rfl, trivial⟩)⟩
    · have hia : ¬ i < a.size := of_decide_eq_false hc
      obtain rfl : i = a.size := by omega
      refine wC_exit ?_
      refine wC_seq ?_
      refine wC_reg ?_
      refine wS_set rfl rfl rfl (a_move rfl rfl) ?_
      refine wS_set rfl rfl rfl (a_move rfl rfl) ?_
      refine wS_set rfl rfl rfl (a_lenStr rfl rfl (hT rfl) rfl) ?_
      refine wS_set rfl rfl rfl (n_indexAddrP (a := b.size) rfl rfl rfl (hT rfl) rfl (hT rfl) rfl (by omega)) ?_
      refine wS_set rfl rfl rfl (a_loadI (by omega) rfl rfl (hT rfl) rfl) ?_
      refine wS_set rfl rfl rfl (a_assign rfl rfl) ?_
      refine wO_nil ?_
      refine wC_ret ?_
      rw [← hR.2 b.size (by omega)]
      exact end_tmp rfl rfl

end Go.Proofs.Ytmmgcodoimpklaa
