/-
  What is proved here: plain laws of sets of bytes; what Classes answers; that the laws answer true over the evaluator. Conditions: words below 2^64, bytes below 256.
-/
import Derived.Test.YtgjochaacmkpaaaWalkA

namespace Go.Proofs.Ytgjochaacmkpaaa
open Go.Dv

theorem has_bit (W : List Nat) (b : Nat) : has W b = (W.getD (b / 64) 0).testBit (b % 64) := by
  unfold has Nat.testBit
  rw [Nat.shiftRight_eq_div_pow, Nat.and_comm]
  have h : ∀ n : Nat, 1 &&& n = 0 ∨ 1 &&& n = 1 := fun n => by
    rw [Nat.and_comm, Nat.and_one_is_mod]; omega
  rcases h (W.getD (b / 64) 0 / 2 ^ (b % 64)) with h | h <;> rw [h] <;> rfl

theorem set_ext {V W : List Nat} (hV : isW V) (hW : isW W) (h : ∀ b, b < 256 → has V b = has W b) : V = W := by
  rw [mapW_eta hV, mapW_eta hW]
  refine mapW_congr fun j hj => ?_
  refine Nat.eq_of_testBit_eq fun i => ?_
  by_cases hi : i < 64
  · have := h (64 * j + i) (by omega)
    rw [has_bit, has_bit, show (64 * j + i) / 64 = j by omega, show (64 * j + i) % 64 = i by omega] at this
    exact this
  · rw [Nat.testBit_lt_two_pow (Nat.lt_of_lt_of_le (hV.2 j) (Nat.pow_le_pow_right (by omega) (by omega))), Nat.testBit_lt_two_pow (Nat.lt_of_lt_of_le (hW.2 j) (Nat.pow_le_pow_right (by omega) (by omega)))]

theorem has_with {W : List Nat} (hW : isW W) {c b : Nat} (hc : c < 256) (hb : b < 256) : has (withW W c) b = (decide (b = c) || has W b) := by
  rw [has_bit, has_bit]
  unfold withW
  rw [getD_set hW (by omega)]
  by_cases h : b / 64 = c / 64
  · rw [if_pos h, Nat.testBit_or, Nat.testBit_two_pow, h, Bool.or_comm]
    congr 1
    rw [decide_eq_decide]; omega
  · rw [if_neg h]
    have : ¬ b = c := fun e => h (by rw [e])
    simp [this]

theorem has_zero (b : Nat) (hb : b < 256) : has zeroW b = false := by
  rw [has_bit]
  have : zeroW.getD (b / 64) 0 = 0 := by
    have h : b / 64 < 4 := by omega
    generalize b / 64 = j at h
    match j, h with
    | 0, _ => rfl
    | 1, _ => rfl
    | 2, _ => rfl
    | 3, _ => rfl
  rw [this, Nat.zero_testBit]

theorem has_fill (p : Nat → Bool) : ∀ (n : Nat), n ≤ 256 → ∀ b, b < 256 → has (fillW p n) b = (decide (b < n) && p b)
  | 0, _, b, hb => by rw [show fillW p 0 = zeroW from rfl, has_zero b hb]; simp
  | n + 1, hn, b, hb => by
    have ih := has_fill p n (by omega) b hb
    cases hp : p n with
    | true =>
      rw [fill_t hp, has_with (fillW_isW p n (by omega)) (by omega) hb, ih]
      by_cases h : b = n
      · subst h; simp [hp]
      · have : (b < n) ↔ (b < n + 1) := by omega
        simp [h, this]
    | false =>
      rw [fill_f hp, ih]
      by_cases h : b = n
      · subst h; simp [hp]
      · have : (b < n) ↔ (b < n + 1) := by omega
        simp [this]

theorem has_map {f : Nat → Nat} {b : Nat} (hb : b < 256) : has (mapW f) b = (f (b / 64)).testBit (b % 64) := by
  rw [has_bit, mapW_get f (by omega)]

theorem has_or {A B : List Nat} {b : Nat} (hb : b < 256) : has (orW A B 4) b = (has A b || has B b) := by
  unfold orW
  rw [has_map hb, if_pos (by omega), Nat.testBit_or, has_bit, has_bit]
theorem has_and {A B : List Nat} {b : Nat} (hb : b < 256) : has (andW A B 4) b = (has A b && has B b) := by
  unfold andW
  rw [has_map hb, if_pos (by omega), Nat.testBit_and, has_bit, has_bit]
theorem has_not {A : List Nat} (hA : isW A) {b : Nat} (hb : b < 256) : has (notW A 4) b = !has A b := by
  unfold notW
  rw [has_map hb, if_pos (by omega), has_bit, Nat.sub_sub, Nat.add_comm, ← Nat.sub_sub]
  have := Nat.testBit_two_pow_sub_succ (hA.2 (b / 64)) (b % 64)
  rw [show 2 ^ 64 - A.getD (b / 64) 0 - 1 = 2 ^ 64 - (A.getD (b / 64) 0 + 1) by omega, this]
  simp; omega

theorem union_law {A B : List Nat} (hA : isW A) (hB : isW B) : orW A B 4 = fillW (fun b => has A b || has B b) 256 :=
  set_ext (orW_isW hA hB 4) (fillW_isW _ 256 (Nat.le_refl _)) fun b hb => by rw [has_or hb, has_fill _ 256 (Nat.le_refl _) b hb]; simp [hb]
theorem inter_law {A B : List Nat} (hA : isW A) (hB : isW B) : andW A B 4 = fillW (fun b => has A b && has B b) 256 :=
  set_ext (andW_isW hA hB 4) (fillW_isW _ 256 (Nat.le_refl _)) fun b hb => by rw [has_and hb, has_fill _ 256 (Nat.le_refl _) b hb]; simp [hb]
theorem compl_law {A : List Nat} (hA : isW A) : notW A 4 = fillW (fun b => !has A b) 256 :=
  set_ext (notW_isW hA 4) (fillW_isW _ 256 (Nat.le_refl _)) fun b hb => by rw [has_not hA hb, has_fill _ 256 (Nat.le_refl _) b hb]; simp [hb]

end Go.Proofs.Ytgjochaacmkpaaa

namespace Go.Proofs.Ytgjochaacmkpaaa
open Go.Dv

def b3 (l : Nat) : Nat :=
  let x := (l / 2 &&& 85) + (l &&& 85)
  let y := (x / 4 &&& 51) + (x &&& 51)
  (y / 16 + y) &&& 15

def cnt8 (l : Nat) : Nat := l % 2 + l / 2 % 2 + l / 4 % 2 + l / 8 % 2 + l / 16 % 2 + l / 32 % 2 + l / 64 % 2 + l / 128 % 2

theorem b3_cnt : ∀ l : Fin 256, b3 l.1 = cnt8 l.1 := by decide +kernel

theorem and_split (a b k : Nat) : a &&& b = (a / 2 ^ k &&& b / 2 ^ k) * 2 ^ k + (a % 2 ^ k &&& b % 2 ^ k) := by
  rw [← Nat.and_div_two_pow, ← Nat.and_mod_two_pow]
  have := Nat.div_add_mod (a &&& b) (2 ^ k)
  rw [Nat.mul_comm] at this
  omega

def rep (c : Nat) : Nat → Nat
  | 0 => 0
  | k + 1 => rep c k * 256 + c

def t1 (k x : Nat) : Nat := (x / 2 &&& rep 85 k) + (x &&& rep 85 k)
def t2 (k x : Nat) : Nat := (x / 4 &&& rep 51 k) + (x &&& rep 51 k)
def t3 (k x : Nat) : Nat := (x / 16 + x) &&& rep 15 k

theorem and_rep (x c k : Nat) (hc : c < 256) : x &&& rep c (k + 1) = (x / 256 &&& rep c k) * 256 + (x % 256 &&& c) := by
  have := and_split x (rep c (k + 1)) 8
  rw [this, show rep c (k + 1) = rep c k * 256 + c from rfl, show (2 : Nat) ^ 8 = 256 from rfl]
  rw [show (rep c k * 256 + c) / 256 = rep c k by omega, show (rep c k * 256 + c) % 256 = c by omega]

theorem m85 : ∀ l : Fin 512, (l.1 / 2 % 256 &&& 85) = (l.1 % 256 / 2 &&& 85) := by decide +kernel
theorem m51 : ∀ l : Fin 1024, (l.1 / 4 % 256 &&& 51) = (l.1 % 256 / 4 &&& 51) := by decide +kernel

theorem t1_succ (k x : Nat) : t1 (k + 1) x = t1 k (x / 256) * 256 + ((x % 256 / 2 &&& 85) + (x % 256 &&& 85)) := by
  unfold t1
  rw [and_rep _ _ _ (by omega), and_rep _ _ _ (by omega)]
  have := m85 ⟨x % 512, by omega⟩
  simp only at this
  rw [show x % 512 / 2 % 256 = x / 2 % 256 by omega, show x % 512 % 256 = x % 256 by omega] at this
  rw [this, show x / 2 / 256 = x / 256 / 2 by omega]
  omega
theorem t2_succ (k x : Nat) : t2 (k + 1) x = t2 k (x / 256) * 256 + ((x % 256 / 4 &&& 51) + (x % 256 &&& 51)) := by
  unfold t2
  rw [and_rep _ _ _ (by omega), and_rep _ _ _ (by omega)]
  have := m51 ⟨x % 1024, by omega⟩
  simp only at this
  rw [show x % 1024 / 4 % 256 = x / 4 % 256 by omega, show x % 1024 % 256 = x % 256 by omega] at this
  rw [this, show x / 4 / 256 = x / 256 / 4 by omega]
  omega

def f1 (l : Nat) : Nat := (l / 2 &&& 85) + (l &&& 85)
def f2 (l : Nat) : Nat := (l / 4 &&& 51) + (l &&& 51)
theorem f1_lt (l : Nat) : f1 l < 256 := by
  have h1 := @Nat.and_le_right (l / 2) 85
  have h2 := @Nat.and_le_right l 85
  unfold f1; omega
theorem f2_lt (l : Nat) : f2 l < 256 := by
  have h1 := @Nat.and_le_right (l / 4) 51
  have h2 := @Nat.and_le_right l 51
  unfold f2; omega
theorem f21 : ∀ l : Fin 256, f2 (f1 l.1) ≤ 68 ∧ f2 (f1 l.1) % 16 ≤ 4 := by decide +kernel

theorem t21_succ (k x : Nat) : t2 (k + 1) (t1 (k + 1) x) = t2 k (t1 k (x / 256)) * 256 + f2 (f1 (x % 256)) := by
  have h := f1_lt (x % 256)
  have e : t1 (k + 1) x = t1 k (x / 256) * 256 + f1 (x % 256) := t1_succ k x
  rw [t2_succ, e, show (t1 k (x / 256) * 256 + f1 (x % 256)) / 256 = t1 k (x / 256) by omega, show (t1 k (x / 256) * 256 + f1 (x % 256)) % 256 = f1 (x % 256) by omega]
  rfl

theorem low4 (k x : Nat) : t2 k (t1 k x) % 16 ≤ 4 := by
  cases k with
  | zero => simp [t2, t1, rep]
  | succ k =>
    have := (f21 ⟨x % 256, by omega⟩).2
    simp only at this
    rw [t21_succ]; omega

theorem t3_succ (k y : Nat) (h1 : y % 256 ≤ 68) (h2 : y / 256 % 16 ≤ 4) : t3 (k + 1) y = t3 k (y / 256) * 256 + (y % 256 / 16 + y % 256 &&& 15) := by
  unfold t3
  rw [and_rep _ _ _ (by omega)]
  have e1 : (y / 16 + y) / 256 = y / 256 / 16 + y / 256 := by omega
  have e2 : (y / 16 + y) % 256 = 16 * (y / 256 % 16) + (y % 256 / 16 + y % 256) := by omega
  have m : ∀ n : Nat, n &&& 15 = n % 16 := fun n => Nat.and_two_pow_sub_one_eq_mod n 4
  rw [e1, e2, m, m]
  omega

def z3 (k x : Nat) : Nat := t3 k (t2 k (t1 k x))
theorem z3_succ (k x : Nat) : z3 (k + 1) x = z3 k (x / 256) * 256 + cnt8 (x % 256) := by
  have h := f2_lt (f1 (x % 256))
  have hf := f21 ⟨x % 256, by omega⟩
  have hl := low4 k (x / 256)
  have hb := b3_cnt ⟨x % 256, by omega⟩
  simp only at hf hb
  unfold z3
  rw [t21_succ, t3_succ _ _ (by omega) (by omega)]
  rw [show (t2 k (t1 k (x / 256)) * 256 + f2 (f1 (x % 256))) / 256 = t2 k (t1 k (x / 256)) by omega, show (t2 k (t1 k (x / 256)) * 256 + f2 (f1 (x % 256))) % 256 = f2 (f1 (x % 256)) by omega, ← hb]
  rfl

/-- How many of the first n bits are set. -/
def cntB (p : Nat → Bool) : Nat → Nat
  | 0 => 0
  | n + 1 => cntB p n + (if p n then 1 else 0)

theorem cntB_add (p : Nat → Bool) (m : Nat) : ∀ n, cntB p (m + n) = cntB p m + cntB (fun i => p (m + i)) n
  | 0 => rfl
  | n + 1 => by
    have := cntB_add p m n
    show cntB p (m + n) + (if p (m + n) then 1 else 0) = cntB p m + (cntB (fun i => p (m + i)) n + (if p (m + n) then 1 else 0))
    omega

theorem cntB_congr {p q : Nat → Bool} : ∀ {n : Nat}, (∀ i, i < n → p i = q i) → cntB p n = cntB q n
  | 0, _ => rfl
  | n + 1, h => by
    simp only [cntB]
    rw [cntB_congr (n := n) (fun i hi => h i (by omega)), h n (by omega)]

theorem cnt8_bits (x : Nat) : cntB x.testBit 8 = cnt8 (x % 256) := by
  have h : ∀ i, (if x.testBit i then 1 else 0) = x / 2 ^ i % 2 := fun i => by
    rw [Nat.testBit_eq_decide_div_mod_eq]
    by_cases e : x / 2 ^ i % 2 = 1
    · simp [e]
    · simp [e]; omega
  simp only [cntB, h, cnt8]
  omega

def sumB : Nat → Nat → Nat
  | 0, _ => 0
  | k + 1, x => sumB k (x / 256) + cnt8 (x % 256)

theorem cnt_sum : ∀ (k x : Nat), cntB x.testBit (8 * k) = sumB k x
  | 0, _ => rfl
  | k + 1, x => by
    rw [show 8 * (k + 1) = 8 + 8 * k by omega, cntB_add, cnt8_bits]
    have : (fun i => x.testBit (8 + i)) = (x / 256).testBit := by
      funext i
      rw [show (256 : Nat) = 2 ^ 8 from rfl, Nat.testBit_div_two_pow, Nat.add_comm]
    rw [this, cnt_sum k (x / 256)]
    simp only [sumB]; omega

theorem cnt8_le (l : Nat) : cnt8 l ≤ 8 := by unfold cnt8; omega

theorem z_eq (x : Nat) : s3 (s2 (s1 x)) = z3 8 x := rfl

theorem s4_lin {p0 p1 p2 p3 p4 p5 p6 p7 q0 q1 q2 q3 q4 q5 q6 z : Nat} (b0 : p0 ≤ 8) (h : z = p0 + 256 * (p1 + 256 * (p2 + 256 * (p3 + 256 * (p4 + 256 * (p5 + 256 * (p6 + 256 * p7)))))))
    (h0 : q0 = p0 + p1) (h1 : q1 = p1 + p2) (h2 : q2 = p2 + p3) (h3 : q3 = p3 + p4) (h4 : q4 = p4 + p5) (h5 : q5 = p5 + p6) (h6 : q6 = p6 + p7) :
    s4 z = q0 + 256 * (q1 + 256 * (q2 + 256 * (q3 + 256 * (q4 + 256 * (q5 + 256 * (q6 + 256 * p7)))))) := by
  have e : z / 2 ^ 8 = p1 + 256 * (p2 + 256 * (p3 + 256 * (p4 + 256 * (p5 + 256 * (p6 + 256 * p7))))) := by omega
  unfold s4; omega
theorem s5_lin {q0 q1 q2 q3 q4 q5 q6 p7 r0 r1 r2 r3 r4 r5 z : Nat} (b0 : q0 ≤ 16) (b1 : q1 ≤ 16) (h : z = q0 + 256 * (q1 + 256 * (q2 + 256 * (q3 + 256 * (q4 + 256 * (q5 + 256 * (q6 + 256 * p7)))))))
    (h0 : r0 = q0 + q2) (h1 : r1 = q1 + q3) (h2 : r2 = q2 + q4) (h3 : r3 = q3 + q5) (h4 : r4 = q4 + q6) (h5 : r5 = q5 + p7) :
    s5 z = r0 + 256 * (r1 + 256 * (r2 + 256 * (r3 + 256 * (r4 + 256 * (r5 + 256 * (q6 + 256 * p7)))))) := by
  have e : z / 2 ^ 16 = q2 + 256 * (q3 + 256 * (q4 + 256 * (q5 + 256 * (q6 + 256 * p7)))) := by omega
  unfold s5; omega
theorem s6_lin {r0 r1 r2 r3 r4 r5 q6 p7 z : Nat} (b0 : r0 ≤ 32) (b1 : r1 ≤ 32) (b2 : r2 ≤ 32) (b3 : r3 ≤ 32) (b4 : r4 ≤ 32) (h : z = r0 + 256 * (r1 + 256 * (r2 + 256 * (r3 + 256 * (r4 + 256 * (r5 + 256 * (q6 + 256 * p7))))))) : s6 z % 128 = r0 + r4 := by
  have e : z / 2 ^ 32 = r4 + 256 * (r5 + 256 * (q6 + 256 * p7)) := by omega
  unfold s6; omega

theorem swar_lin {p0 p1 p2 p3 p4 p5 p6 p7 z t : Nat} (b0 : p0 ≤ 8) (b1 : p1 ≤ 8) (b2 : p2 ≤ 8) (b3 : p3 ≤ 8) (b4 : p4 ≤ 8) (b5 : p5 ≤ 8) (b6 : p6 ≤ 8) (b7 : p7 ≤ 8)
    (h : z = p0 + 256 * (p1 + 256 * (p2 + 256 * (p3 + 256 * (p4 + 256 * (p5 + 256 * (p6 + 256 * p7)))))) ∧ t = p0 + p1 + p2 + p3 + p4 + p5 + p6 + p7) : s6 (s5 (s4 z)) % 128 = t := by
  have e4 := s4_lin b0 h.1 rfl rfl rfl rfl rfl rfl rfl
  have e5 := s5_lin (by omega) (by omega) e4 rfl rfl rfl rfl rfl rfl
  have e6 := s6_lin (by omega) (by omega) (by omega) (by omega) (by omega) e5
  rw [e6, h.2]
  omega

theorem swar_sum {x : Nat} (hx : x < 2 ^ 64) : swar x = sumB 8 x := by
  unfold swar
  rw [z_eq]
  have m : ∀ n : Nat, n &&& 127 = n % 128 := fun n => Nat.and_two_pow_sub_one_eq_mod n 7
  have z0 : ∀ y, z3 0 y = 0 := fun y => by simp [z3, t3, rep]
  rw [m]
  simp only [z3_succ, sumB, z0]
  generalize h0 : cnt8 (x % 256) = p0
  generalize h1 : cnt8 (x / 256 % 256) = p1
  generalize h2 : cnt8 (x / 256 / 256 % 256) = p2
  generalize h3 : cnt8 (x / 256 / 256 / 256 % 256) = p3
  generalize h4 : cnt8 (x / 256 / 256 / 256 / 256 % 256) = p4
  generalize h5 : cnt8 (x / 256 / 256 / 256 / 256 / 256 % 256) = p5
  generalize h6 : cnt8 (x / 256 / 256 / 256 / 256 / 256 / 256 % 256) = p6
  generalize h7 : cnt8 (x / 256 / 256 / 256 / 256 / 256 / 256 / 256 % 256) = p7
  have b0 : p0 ≤ 8 := h0 ▸ cnt8_le _
  have b1 : p1 ≤ 8 := h1 ▸ cnt8_le _
  have b2 : p2 ≤ 8 := h2 ▸ cnt8_le _
  have b3 : p3 ≤ 8 := h3 ▸ cnt8_le _
  have b4 : p4 ≤ 8 := h4 ▸ cnt8_le _
  have b5 : p5 ≤ 8 := h5 ▸ cnt8_le _
  have b6 : p6 ≤ 8 := h6 ▸ cnt8_le _
  have b7 : p7 ≤ 8 := h7 ▸ cnt8_le _
  clear h0 h1 h2 h3 h4 h5 h6 h7
  refine swar_lin b0 b1 b2 b3 b4 b5 b6 b7 ?_
  omega

end Go.Proofs.Ytgjochaacmkpaaa

namespace Go.Proofs.Ytgjochaacmkpaaa
open Go.Dv

theorem fn15 : tab.fn.getD 15 .none = some Try.f15 := by kernel_rfl
theorem fn16 : tab.fn.getD 16 .none = some Try.f16 := by kernel_rfl
theorem fn17 : tab.fn.getD 17 .none = some Try.f17 := by kernel_rfl
theorem fn27 : tab.fn.getD 27 .none = some Try.f27 := by kernel_rfl

def natV (n : Nat) : V := .lit (.int .i64 (n : Int))
def rowI (l : List Nat) : List (List V) := l.map fun n => [natV n]
theorem rowI_len (l : List Nat) : (rowI l).length = l.length := by simp [rowI]
theorem rowI_get {l : List Nat} {i : Nat} (h : i < l.length) : (rowI l)[i]? = some [natV (l.getD i 0)] := by
  simp [rowI, List.getD_eq_getElem?_getD, List.getElem?_eq_getElem h]
theorem getD_lt {l : List Nat} {i : Nat} (h : i < l.length) : l.getD i 0 = l[i] := by simp [List.getD_eq_getElem?_getD, List.getElem?_eq_getElem h]

/-- The first i elements are the same. -/
def agree (l m : List Nat) (i : Nat) : Prop := ∀ j, j < i → l.getD j 0 = m.getD j 0

theorem agree_all {l m : List Nat} (hl : l.length = m.length) (h : agree l m l.length) : l = m := by
  refine List.ext_getElem hl fun i h1 h2 => ?_
  have := h i h1
  rwa [getD_lt h1, getD_lt h2] at this

set_option maxRecDepth 100000 in
theorem ev15 {l m : List Nat} (h1 : l.length < 2 ^ 62) (h2 : m.length < 2 ^ 62) : FnEv tab ext0 15 [.v (.sl 1 (rowI l)), .v (.sl 1 (rowI m))] [] (.ret [boolV (decide (l = m))], []) := by
  have e1 := rowI_len l
  have e2 := rowI_len m
  refine fn_go _ rfl fn15 rfl rfl rfl ?_
  refine wC_seq ?_
  refine wC_reg ?_
  refine wS_set rfl rfl rfl (a_assign rfl rfl) ?_
  refine wO_nil ?_
  refine wC_seq ?_
  refine wC_seq ?_
  refine wC_reg ?_
  refine wS_set rfl rfl rfl (a_move rfl rfl) ?_
  refine wS_set rfl rfl rfl (a_lenV (es := rowI l) rfl rfl (hT rfl) rfl) ?_
  refine wS_set rfl rfl rfl (a_move rfl rfl) ?_
  refine wS_set rfl rfl rfl (a_lenV (es := rowI m) rfl rfl (hT rfl) rfl) ?_
  refine wS_set rfl rfl rfl (n_neq (a := (rowI l).length) (b := (rowI m).length) rfl rfl) ?_
  refine wO_nil ?_
  refine wC_cond rfl (fun hc => ?_) (fun hc => ?_)
  ·
    have hne : ¬ l = m := by
      intro e; subst e; simp at hc
    refine wC_seq ?_
    refine wC_reg ?_
    refine wS_set rfl rfl rfl (a_assign rfl rfl) ?_
    refine wO_nil ?_
    refine wC_ret ?_
    rw [decide_eq_false hne]
    exact end_tmp rfl rfl
  ·
    have hll : l.length = m.length := by
      have : ¬ (rowI l).length ≠ (rowI m).length := by simpa using hc
      omega
    refine wC_skip ?_
    refine wC_seq ?_
    refine wC_seq ?_
    refine wC_reg ?_
    refine wS_set rfl rfl rfl (a_assign rfl rfl) ?_
    refine wO_nil ?_
    refine wC_block ?_ -- 0
    refine wC_loop (fun k ρ => ∃ i, i + k = l.length ∧ agree l m i ∧ PinSt 26 [(0, .v (.sl 1 (rowI l))), (1, .v (.sl 1 (rowI m))), (5, natX .i64 i)] [] ρ) (fun k ρ hi => ?_) l.length
      ⟨0, by omega, fun j hj => by omega, pinned_mk rfl ⟨rfl, rfl, rfl, trivial⟩ trivial⟩
    obtain ⟨i, hm, ha, hi⟩ := hi
    obtain ⟨g, h, rfl⟩ := hi.form
    refine wC_seq ?_
    refine wC_seq ?_
    refine wC_reg ?_
    refine wS_set rfl rfl rfl (a_move rfl rfl) ?_
    refine wS_set rfl rfl rfl (a_move rfl rfl) ?_
    refine wS_set rfl rfl rfl (a_lenV (es := rowI l) rfl rfl (hT rfl) rfl) ?_
    refine wS_set rfl rfl rfl (n_lss (a := i) (b := (rowI l).length) rfl rfl) ?_
    refine wO_nil ?_
    refine wC_cond rfl (fun hc => ?_) (fun hc => ?_)
    ·
      have hlt : i < l.length := by rw [← e1]; simpa using hc
      refine wC_skip ?_
      refine wC_seq ?_
      refine wC_block ?_ -- 1
      refine wC_seq ?_
      refine wC_regD (by kernel_rfl) ?_
      refine wS_set rfl rfl rfl (a_move rfl rfl) ?_
      refine wS_set rfl rfl rfl (a_move rfl rfl) ?_
      refine wS_set rfl rfl rfl (n_indexAddrV (a := i) (es := rowI l) rfl rfl (hT rfl) rfl (hT rfl) rfl (rowI_get hlt)) ?_
      refine wS_set rfl rfl rfl (a_loadR1 rfl (hT rfl) rfl rfl) ?_
      refine wS_set rfl rfl rfl (a_move rfl rfl) ?_
      refine wS_set rfl rfl rfl (a_move rfl rfl) ?_
      refine wS_set rfl rfl rfl (n_indexAddrV (a := i) (es := rowI m) rfl rfl (hT rfl) rfl (hT rfl) rfl (rowI_get (by omega))) ?_
      refine wS_set rfl rfl rfl (a_loadR1 rfl (hT rfl) rfl rfl) ?_
      refine wS_set rfl rfl rfl (n_neq (a := l.getD i 0) (b := m.getD i 0) rfl rfl) ?_
      refine wO_nil ⟨rfl, by kernel_rfl, ?_⟩
      refine wC_cond rfl (fun hc => ?_) (fun hc => ?_)
      ·
        have hne : ¬ l = m := by
          intro e; subst e; simp at hc
        refine wC_seq ?_
        refine wC_reg ?_
        refine wS_set rfl rfl rfl (a_assign rfl rfl) ?_
        refine wO_nil ?_
        refine wC_ret ?_
        rw [decide_eq_false hne]
        exact end_tmp rfl rfl
      ·
        have hee : l.getD i 0 = m.getD i 0 := by
          have := of_decide_eq_false hc
          omega
        refine wC_skip ?_
        refine wC_reg ?_
        refine wS_set rfl rfl rfl (a_move rfl rfl) ?_
        refine wS_set rfl rfl rfl (n_add (a := i) (b := 1) rfl rfl (by simp only [capN]; omega)) ?_
        refine wS_set rfl rfl rfl (a_assign rfl rfl) ?_
        refine wO_nil ?_
        refine ⟨k - 1, by omega, i + 1, by omega, fun j hj => ?_, pinned_mk rfl ⟨rfl, rfl, rfl, trivial⟩ trivial⟩
        by_cases e : j = i
        · subst e; exact hee
        · exact ha j (by omega)
    ·
      have hlt : ¬ i < l.length := by rw [← e1]; simpa using hc
      obtain rfl : i = l.length := by omega
      refine wC_exit ?_ -- 0
      refine wC_seq ?_
      refine wC_reg ?_
      refine wS_set rfl rfl rfl (a_assign rfl rfl) ?_
      refine wO_nil ?_
      refine wC_ret ?_
      rw [decide_eq_true (agree_all hll ha)]
      exact end_tmp rfl rfl

end Go.Proofs.Ytgjochaacmkpaaa

namespace Go.Proofs.Ytgjochaacmkpaaa
open Go.Dv

def rowS (S : List (List Nat)) : List (List V) := S.map fun W => W.map word
theorem rowS_len (S : List (List Nat)) : (rowS S).length = S.length := by simp [rowS]
theorem rowS_get {S : List (List Nat)} {i : Nat} (h : i < S.length) : (rowS S)[i]? = some ((S.getD i []).map word) := by
  simp [rowS, List.getD_eq_getElem?_getD, List.getElem?_eq_getElem h]
theorem getD_mem {S : List (List Nat)} {i : Nat} (h : i < S.length) : S.getD i [] ∈ S := by
  simp [List.getD_eq_getElem?_getD, List.getElem?_eq_getElem h]

def eqvW (S : List (List Nat)) (a b : Nat) : Bool := S.all fun W => has W a == has W b
theorem eqvW_t {S : List (List Nat)} {a b : Nat} (h : ∀ j, j < S.length → has (S.getD j []) a = has (S.getD j []) b) : eqvW S a b = true := by
  refine List.all_eq_true.2 fun W hW => ?_
  obtain ⟨i, hi, rfl⟩ := List.mem_iff_getElem.1 hW
  have := h i hi
  simp [List.getD_eq_getElem?_getD, List.getElem?_eq_getElem hi] at this
  simp [this]
theorem eqvW_f {S : List (List Nat)} {a b i : Nat} (hi : i < S.length) (h : ¬ has (S.getD i []) a = has (S.getD i []) b) : eqvW S a b = false := by
  cases e : eqvW S a b with
  | false => rfl
  | true =>
    have := List.all_eq_true.1 e _ (getD_mem hi)
    exact absurd (by simpa using this) h

theorem loadS {L : Lite} {ext : Ext} {n0 : Nat} {sl : Nat → X} {ob : Nat → Ob} {d : Option Tmp} {ty : TypeId} {pos : String} {af : Array Edge} {gd : Option (Nat × Bool)} {t : TypeId} {T : TI} {x : Operand} {W : List Nat} (hW : isW W)
    (hx : (St.opd ⟨n0, sl, ob⟩) x = .ro (W.map word)) (ht : L.ti t = T) (hk : T.kd = 2) (hs : T.size = 4) : ActEv L ext ⟨d, .load t x, ty, pos, af, gd⟩ ⟨n0, sl, ob⟩ (.v (setV W)) ob [] [] := by
  have := a_loadR2 (L := L) (ext := ext) (d := d) (ty := ty) (pos := pos) (af := af) (gd := gd) hx ht hk (by rw [hs, List.length_map, hW.1]; exact Nat.le_refl _)
  rw [hs, List.take_of_length_le (by rw [List.length_map, hW.1]; exact Nat.le_refl _)] at this
  exact this

set_option maxRecDepth 100000 in
theorem ev27V {S : List (List Nat)} {a b : Nat} (hS : ∀ W ∈ S, isW W) (ha : a < 256) (hb : b < 256) (hl : S.length < 2 ^ 62) : FnEv tab ext0 27 [.v (.sl 4 (rowS S)), .v (byteV a), .v (byteV b)] [] (.ret [boolV (eqvW S a b)], []) := by
  have e1 := rowS_len S
  refine fn_go _ rfl fn27 rfl rfl rfl ?_
  refine wC_seq ?_
  refine wC_reg ?_
  refine wS_set rfl rfl rfl (a_assign rfl rfl) ?_
  refine wO_nil ?_
  refine wC_seq ?_
  refine wC_seq ?_
  refine wC_reg ?_
  refine wS_set rfl rfl rfl (a_assign rfl rfl) ?_
  refine wO_nil ?_
  refine wC_block ?_ -- 0
  refine wC_loop (fun k ρ => ∃ i, i + k = S.length ∧ (∀ j, j < i → has (S.getD j []) a = has (S.getD j []) b) ∧ PinSt 27 [(0, .v (.sl 4 (rowS S))), (1, .v (byteV a)), (2, .v (byteV b)), (7, natX .i64 i)] [] ρ) (fun k ρ hi => ?_) S.length
    ⟨0, by omega, fun j hj => by omega, pinned_mk rfl ⟨rfl, rfl, rfl, rfl, trivial⟩ trivial⟩
  obtain ⟨i, hm, hag, hi⟩ := hi
  obtain ⟨g, h, rfl⟩ := hi.form
  refine wC_seq ?_
  refine wC_seq ?_
  refine wC_reg ?_
  refine wS_set rfl rfl rfl (a_move rfl rfl) ?_
  refine wS_set rfl rfl rfl (a_move rfl rfl) ?_
  refine wS_set rfl rfl rfl (a_lenV (es := rowS S) rfl rfl (hT rfl) rfl) ?_
  refine wS_set rfl rfl rfl (n_lss (a := i) (b := (rowS S).length) rfl rfl) ?_
  refine wO_nil ?_
  refine wC_cond rfl (fun hc => ?_) (fun hc => ?_)
  ·
    have hlt : i < S.length := by rw [← e1]; simpa using hc
    have hW := hS _ (getD_mem hlt)
    refine wC_skip ?_
    refine wC_seq ?_
    refine wC_block ?_ -- 1
    refine wC_seq ?_
    refine wC_regD (by kernel_rfl) ?_
    refine wS_set rfl rfl rfl (a_move rfl rfl) ?_
    refine wS_set rfl rfl rfl (a_move rfl rfl) ?_
    refine wS_set rfl rfl rfl (n_indexAddrV (a := i) (es := rowS S) rfl rfl (hT rfl) rfl (hT rfl) rfl (rowS_get hlt)) ?_
    refine wS_set rfl rfl rfl (loadS hW rfl (hT rfl) rfl rfl) ?_
    refine wS_set rfl rfl rfl (a_move rfl rfl) ?_
    refine wS_set rfl rfl rfl (a_call rfl rfl fn14 rfl rfl (ev14 ha hW)) ?_
    refine wS_set rfl rfl rfl (a_move rfl rfl) ?_
    refine wS_set rfl rfl rfl (a_move rfl rfl) ?_
    refine wS_set rfl rfl rfl (n_indexAddrV (a := i) (es := rowS S) rfl rfl (hT rfl) rfl (hT rfl) rfl (rowS_get hlt)) ?_
    refine wS_set rfl rfl rfl (loadS hW rfl (hT rfl) rfl rfl) ?_
    refine wS_set rfl rfl rfl (a_move rfl rfl) ?_
    refine wS_set rfl rfl rfl (a_call rfl rfl fn14 rfl rfl (ev14 hb hW)) ?_
    refine wS_set rfl rfl rfl (a_binB (a := has (S.getD i []) a) (b := has (S.getD i []) b) rfl rfl (hT rfl) rfl rfl) ?_
    refine wO_nil ⟨rfl, by kernel_rfl, ?_⟩
    refine wC_cond rfl (fun hc => ?_) (fun hc => ?_)
    ·
      have hne : eqvW S a b = false := eqvW_f hlt (by intro e; rw [e] at hc; simp at hc)
      refine wC_seq ?_
      refine wC_reg ?_
      refine wS_set rfl rfl rfl (a_assign rfl rfl) ?_
      refine wO_nil ?_
      refine wC_ret ?_
      rw [hne]
      exact end_tmp rfl rfl
    ·
      have hee : has (S.getD i []) a = has (S.getD i []) b := by simpa using hc
      refine wC_skip ?_
      refine wC_reg ?_
      refine wS_set rfl rfl rfl (a_move rfl rfl) ?_
      refine wS_set rfl rfl rfl (n_add (a := i) (b := 1) rfl rfl (by simp only [capN]; omega)) ?_
      refine wS_set rfl rfl rfl (a_assign rfl rfl) ?_
      refine wO_nil ?_
      refine ⟨k - 1, by omega, i + 1, by omega, fun j hj => ?_, pinned_mk rfl ⟨rfl, rfl, rfl, rfl, trivial⟩ trivial⟩
      by_cases e : j = i
      · subst e; exact hee
      · exact hag j (by omega)
  ·
    have hlt : ¬ i < S.length := by rw [← e1]; simpa using hc
    obtain rfl : i = S.length := by omega
    refine wC_exit ?_ -- 0
    refine wC_seq ?_
    refine wC_reg ?_
    refine wS_set rfl rfl rfl (a_assign rfl rfl) ?_
    refine wO_nil ?_
    refine wC_ret ?_
    rw [eqvW_t hag]
    exact end_tmp rfl rfl

set_option maxRecDepth 100000 in
theorem ev27L {S : List (List Nat)} {a b : Nat} (hS : ∀ W ∈ S, isW W) (ha : a < 256) (hb : b < 256) (hl : S.length < 2 ^ 62) : FnEv tab ext0 27 [.lent 4 (rowS S), .v (byteV a), .v (byteV b)] [] (.ret [boolV (eqvW S a b)], []) := by
  have e1 := rowS_len S
  refine fn_go _ rfl fn27 rfl rfl rfl ?_
  refine wC_seq ?_
  refine wC_reg ?_
  refine wS_set rfl rfl rfl (a_assign rfl rfl) ?_
  refine wO_nil ?_
  refine wC_seq ?_
  refine wC_seq ?_
  refine wC_reg ?_
  refine wS_set rfl rfl rfl (a_assign rfl rfl) ?_
  refine wO_nil ?_
  refine wC_block ?_ -- 0
  refine wC_loop (fun k ρ => ∃ i, i + k = S.length ∧ (∀ j, j < i → has (S.getD j []) a = has (S.getD j []) b) ∧ PinSt 27 [(0, .lent 4 (rowS S)), (1, .v (byteV a)), (2, .v (byteV b)), (7, natX .i64 i)] [] ρ) (fun k ρ hi => ?_) S.length
    ⟨0, by omega, fun j hj => by omega, pinned_mk rfl ⟨rfl, rfl, rfl, rfl, trivial⟩ trivial⟩
  obtain ⟨i, hm, hag, hi⟩ := hi
  obtain ⟨g, h, rfl⟩ := hi.form
  refine wC_seq ?_
  refine wC_seq ?_
  refine wC_reg ?_
  refine wS_set rfl rfl rfl (a_move rfl rfl) ?_
  refine wS_set rfl rfl rfl (a_move rfl rfl) ?_
  refine wS_set rfl rfl rfl (a_lenL (es := rowS S) rfl rfl (hT rfl) rfl) ?_
  refine wS_set rfl rfl rfl (n_lss (a := i) (b := (rowS S).length) rfl rfl) ?_
  refine wO_nil ?_
  refine wC_cond rfl (fun hc => ?_) (fun hc => ?_)
  ·
    have hlt : i < S.length := by rw [← e1]; simpa using hc
    have hW := hS _ (getD_mem hlt)
    refine wC_skip ?_
    refine wC_seq ?_
    refine wC_block ?_ -- 1
    refine wC_seq ?_
    refine wC_regD (by kernel_rfl) ?_
    refine wS_set rfl rfl rfl (a_move rfl rfl) ?_
    refine wS_set rfl rfl rfl (a_move rfl rfl) ?_
    refine wS_set rfl rfl rfl (n_indexAddrL (a := i) (es := rowS S) rfl rfl (hT rfl) rfl (hT rfl) rfl (rowS_get hlt)) ?_
    refine wS_set rfl rfl rfl (loadS hW rfl (hT rfl) rfl rfl) ?_
    refine wS_set rfl rfl rfl (a_move rfl rfl) ?_
    refine wS_set rfl rfl rfl (a_call rfl rfl fn14 rfl rfl (ev14 ha hW)) ?_
    refine wS_set rfl rfl rfl (a_move rfl rfl) ?_
    refine wS_set rfl rfl rfl (a_move rfl rfl) ?_
    refine wS_set rfl rfl rfl (n_indexAddrL (a := i) (es := rowS S) rfl rfl (hT rfl) rfl (hT rfl) rfl (rowS_get hlt)) ?_
    refine wS_set rfl rfl rfl (loadS hW rfl (hT rfl) rfl rfl) ?_
    refine wS_set rfl rfl rfl (a_move rfl rfl) ?_
    refine wS_set rfl rfl rfl (a_call rfl rfl fn14 rfl rfl (ev14 hb hW)) ?_
    refine wS_set rfl rfl rfl (a_binB (a := has (S.getD i []) a) (b := has (S.getD i []) b) rfl rfl (hT rfl) rfl rfl) ?_
    refine wO_nil ⟨rfl, by kernel_rfl, ?_⟩
    refine wC_cond rfl (fun hc => ?_) (fun hc => ?_)
    ·
      have hne : eqvW S a b = false := eqvW_f hlt (by intro e; rw [e] at hc; simp at hc)
      refine wC_seq ?_
      refine wC_reg ?_
      refine wS_set rfl rfl rfl (a_assign rfl rfl) ?_
      refine wO_nil ?_
      refine wC_ret ?_
      rw [hne]
      exact end_tmp rfl rfl
    ·
      have hee : has (S.getD i []) a = has (S.getD i []) b := by simpa using hc
      refine wC_skip ?_
      refine wC_reg ?_
      refine wS_set rfl rfl rfl (a_move rfl rfl) ?_
      refine wS_set rfl rfl rfl (n_add (a := i) (b := 1) rfl rfl (by simp only [capN]; omega)) ?_
      refine wS_set rfl rfl rfl (a_assign rfl rfl) ?_
      refine wO_nil ?_
      refine ⟨k - 1, by omega, i + 1, by omega, fun j hj => ?_, pinned_mk rfl ⟨rfl, rfl, rfl, rfl, trivial⟩ trivial⟩
      by_cases e : j = i
      · subst e; exact hee
      · exact hag j (by omega)
  ·
    have hlt : ¬ i < S.length := by rw [← e1]; simpa using hc
    obtain rfl : i = S.length := by omega
    refine wC_exit ?_ -- 0
    refine wC_seq ?_
    refine wC_reg ?_
    refine wS_set rfl rfl rfl (a_assign rfl rfl) ?_
    refine wO_nil ?_
    refine wC_ret ?_
    rw [eqvW_t hag]
    exact end_tmp rfl rfl

end Go.Proofs.Ytgjochaacmkpaaa

namespace Go.Proofs.Ytgjochaacmkpaaa
open Go.Dv

def keyW (S : List (List Nat)) (b : Nat) : List Bool := S.map fun W => has W b
def clsK (S : List (List Nat)) : Nat → List (List Bool)
  | 0 => []
  | i + 1 => if keyW S i ∈ clsK S i then clsK S i else clsK S i ++ [keyW S i]
def cls (S : List (List Nat)) (i : Nat) : Nat := (clsK S i).idxOf (keyW S i)
def clsRow (S : List (List Nat)) (n : Nat) : List Nat := (List.range n).map (cls S)
def outR (S : List (List Nat)) (n : Nat) : List Nat := clsRow S n ++ List.replicate (256 - n) 0

theorem clsRow_len (S : List (List Nat)) (n : Nat) : (clsRow S n).length = n := by simp [clsRow]
theorem clsRow_succ (S : List (List Nat)) (n : Nat) : clsRow S (n + 1) = clsRow S n ++ [cls S n] := by simp [clsRow, List.range_succ]
theorem outR_len (S : List (List Nat)) {n : Nat} (h : n ≤ 256) : (outR S n).length = 256 := by simp [outR, clsRow_len]; omega
theorem outR_0 (S : List (List Nat)) : outR S 0 = List.replicate 256 0 := rfl
theorem outR_end (S : List (List Nat)) : outR S 256 = clsRow S 256 := by simp [outR]
theorem outR_set (S : List (List Nat)) {n : Nat} (h : n < 256) : (outR S n).set n (cls S n) = outR S (n + 1) := by
  have e : List.replicate (256 - n) 0 = 0 :: List.replicate (256 - (n + 1)) 0 := by
    rw [show 256 - n = (256 - (n + 1)) + 1 by omega, List.replicate_succ]
  simp only [outR]
  rw [e, clsRow_succ, List.set_append_right _ _ (by rw [clsRow_len]; exact Nat.le_refl _), clsRow_len, Nat.sub_self, List.set_cons_zero, List.append_assoc]
  rfl
theorem rowI_set (l : List Nat) (i x : Nat) : (rowI l).set i [natV x] = rowI (l.set i x) := by simp [rowI, List.map_set]
theorem cls_le (S : List (List Nat)) (i : Nat) : cls S i ≤ (clsK S i).length := List.idxOf_le_length
theorem clsK_le (S : List (List Nat)) : ∀ i, (clsK S i).length ≤ i
  | 0 => Nat.le_refl _
  | i + 1 => by
    have := clsK_le S i
    simp only [clsK]; split
    · omega
    · simp; omega

/-- A key as the program writes it. -/
def bitN (p : Bool) : Nat := if p then 1 else 0
def bitE (p : Bool) : List V := [byteV (bitN p)]
def bit8 (p : Bool) : UInt8 := if p then 1 else 0
def keyV (k : List Bool) : Value := .string ⟨(k.map bit8).toArray⟩
def keyRow (S : List (List Nat)) (b j : Nat) : List (List V) := (S.take j).map (fun W => bitE (has W b)) ++ List.replicate (S.length - j) (bitE false)
def mpE : List (List Bool) → Nat → List (Value × V)
  | [], _ => []
  | k :: K, n => (keyV k, natV n) :: mpE K (n + 1)

theorem keyRow_0 (S : List (List Nat)) (b : Nat) : keyRow S b 0 = List.replicate S.length (bitE false) := by simp [keyRow]
theorem keyRow_end (S : List (List Nat)) (b : Nat) : keyRow S b S.length = (keyW S b).map bitE := by simp [keyRow, keyW]
theorem keyRow_len (S : List (List Nat)) (b : Nat) {j : Nat} (h : j ≤ S.length) : (keyRow S b j).length = S.length := by simp [keyRow]; omega
theorem keyRow_get (S : List (List Nat)) (b : Nat) {j : Nat} (h : j < S.length) : (keyRow S b j)[j]? = some (bitE false) := by
  have e : (List.map (fun W => bitE (has W b)) (List.take j S)).length = j := by simp; omega
  rw [keyRow, List.getElem?_append_right (by omega), e, Nat.sub_self, show S.length - j = (S.length - (j + 1)) + 1 by omega, List.replicate_succ]
  rfl
theorem take_succ' {S : List (List Nat)} {j : Nat} (h : j < S.length) : S.take (j + 1) = S.take j ++ [S.getD j []] := by
  rw [List.take_add_one, List.getD_eq_getElem?_getD, List.getElem?_eq_getElem h]; rfl
theorem keyRow_t (S : List (List Nat)) (b : Nat) {j : Nat} (h : j < S.length) (hb : has (S.getD j []) b = true) : (keyRow S b j).set j (bitE true) = keyRow S b (j + 1) := by
  simp only [keyRow]
  rw [List.set_append_right _ _ (by simp; omega), take_succ' h, show S.length - j = (S.length - (j + 1)) + 1 by omega, List.replicate_succ]
  have : j - (List.map (fun W => bitE (has W b)) (List.take j S)).length = 0 := by simp; omega
  rw [this]
  simp only [List.set_cons_zero, List.map_append, List.map_cons, List.map_nil, hb, List.append_assoc]
  rfl
theorem keyRow_f (S : List (List Nat)) (b : Nat) {j : Nat} (h : j < S.length) (hb : has (S.getD j []) b = false) : keyRow S b j = keyRow S b (j + 1) := by
  simp only [keyRow]
  rw [take_succ' h, show S.length - j = (S.length - (j + 1)) + 1 by omega, List.replicate_succ]
  simp only [List.map_append, List.map_cons, List.map_nil, hb, List.append_assoc]
  rfl
theorem key_bytes : ∀ (k : List Bool), bytesOf (k.map bitE) = some (k.map bit8)
  | [] => rfl
  | p :: k => by
    have := key_bytes k
    cases p <;> simp [bitE, byteV, bytesOf, this, bit8, bitN] <;> rfl

theorem keyV_inj : ∀ {a b : List Bool}, a.map bit8 = b.map bit8 → a = b
  | [], [], _ => rfl
  | [], _ :: _, h => by cases h
  | _ :: _, [], h => by cases h
  | p :: a, q :: b, h => by
    simp only [List.map_cons, List.cons.injEq] at h
    have : p = q := by
      have h1 := h.1
      cases p <;> cases q <;> first | rfl | (revert h1; decide)
    rw [this, keyV_inj h.2]

theorem same_key (a b : List Bool) : Go.Instr.sameNow .string (keyV a) (keyV b) = some (decide (a = b)) := by
  have e : ∀ x y : List Bool, ((⟨(x.map bit8).toArray⟩ : ByteArray) == ⟨(y.map bit8).toArray⟩) = decide (x = y) := by
    intro x y
    show ((x.map bit8).toArray == (y.map bit8).toArray) = decide (x = y)
    by_cases h : x = y
    · subst h; simp
    · rw [decide_eq_false h]
      refine beq_eq_false_iff_ne.2 fun hh => h (keyV_inj ?_)
      simpa using hh
  simp only [keyV, Go.Instr.sameNow]
  first
    | rw [e]
    | (congr 1; exact e a b)

theorem mp_find (k : List Bool) : ∀ (K : List (List Bool)) (n i : Nat), mpFind .string (keyV k) (mpE K n) i = some (if k ∈ K then some (i + K.idxOf k, natV (n + K.idxOf k)) else .none)
  | [], n, i => by simp [mpE, mpFind]
  | x :: K, n, i => by
    simp only [mpE, mpFind, same_key]
    by_cases h : k = x
    · subst h; simp
    · rw [decide_eq_false h]
      simp only [mp_find k K (n + 1) (i + 1), List.mem_cons, h, false_or]
      have hx : (x == k) = false := by simpa using fun e : x = k => h e.symm
      by_cases hk : k ∈ K
      · simp only [hk, if_true, List.idxOf_cons, hx, cond_false]
        rw [show i + 1 + List.idxOf k K = i + (List.idxOf k K + 1) by omega, show n + 1 + List.idxOf k K = n + (List.idxOf k K + 1) by omega]
      · simp only [hk, if_false]

theorem mp_app (k : List Bool) : ∀ (K : List (List Bool)) (n : Nat), mpE K n ++ [(keyV k, natV (n + K.length))] = mpE (K ++ [k]) n
  | [], n => rfl
  | x :: K, n => by
    have := mp_app k K (n + 1)
    simp only [mpE, List.cons_append, List.length_cons]
    rw [← this, show n + 1 + K.length = n + (K.length + 1) by omega]
theorem mp_len : ∀ (K : List (List Bool)) (n : Nat), (mpE K n).length = K.length
  | [], _ => rfl
  | _ :: K, n => by simp [mpE, mp_len K]

/-! ### stores and loads of whole sets, of single numbers -/
section
variable {L : Lite} {ext : Ext} {n0 : Nat} {sl : Nat → X} {ob : Nat → Ob} {d : Option Tmp} {ty : TypeId} {pos : String} {af : Array Edge} {gd : Option (Nat × Bool)}
theorem a_storeW {t : TypeId} {T : TI} {x y : Operand} {s g : Nat} {cs : List X} {W : List Nat} (hW : isW W) (hx : (St.opd ⟨n0, sl, ob⟩) x = .addr s g 0) (hy : (St.opd ⟨n0, sl, ob⟩) y = .v (setV W)) (ho : ob s = .box g cs) (hc : cs.length = 4) (ht : L.ti t = T) (hk : T.kd = 2)
    (hl : T.size = 4) : ActEv L ext ⟨d, .store t x y, ty, pos, af, gd⟩ ⟨n0, sl, ob⟩ .undef (upd ob s (.box g (cells W))) [s] [s] := by
  have := a_store2 (L := L) (ext := ext) (d := d) (ty := ty) (pos := pos) (af := af) (gd := gd) hx hy ho ht hk (by rw [hl, List.length_map, hW.1]) (by rw [List.length_map, hW.1, hc]; exact Nat.le_refl _)
  have e : setRange cs 0 ((W.map word).map X.v) = cells W := by
    obtain ⟨h1, _⟩ := hW
    match W, cs, h1, hc with
    | [a, b, c, d], [e, f, g, h], _, _ => rfl
  rw [e] at this
  exact this
theorem a_storeI {t : TypeId} {T : TI} {x y : Operand} {s g i z : Nat} {es : List (List V)} {v : V} (hx : (St.opd ⟨n0, sl, ob⟩) x = .elt s g i 0) (hy : (St.opd ⟨n0, sl, ob⟩) y = .v v) (hc : v.flat = true) (ho : ob s = .row g true z es) (he : ∃ w, es[i]? = some [w]) (ht : L.ti t = T) (hk : T.kd = 1)
    (hl : T.size = 1) : ActEv L ext ⟨d, .store t x y, ty, pos, af, gd⟩ ⟨n0, sl, ob⟩ .undef (upd ob s (.row g true z (es.set i [v]))) [s] [s] := by
  obtain ⟨w, he⟩ := he
  exact a_storeE1 hx hy hc ho he ht hk hl Nat.zero_lt_one
theorem a_loadI {t : TypeId} {T : TI} {x : Operand} {s g i z : Nat} {mt : Bool} {l : List Nat} (hx : (St.opd ⟨n0, sl, ob⟩) x = .elt s g i 0) (ho : ob s = .row g mt z (rowI l)) (he : i < l.length) (ht : L.ti t = T) (hk : T.kd = 1) :
    ActEv L ext ⟨d, .load t x, ty, pos, af, gd⟩ ⟨n0, sl, ob⟩ (.v (natV (l.getD i 0))) ob [s] [] :=
  a_loadE1 hx ho (rowI_get he) ht hk rfl
theorem a_storeR {t : TypeId} {T : TI} {x y : Operand} {s g i z : Nat} {l : List Nat} {v : Nat} (he : i < l.length) (hx : (St.opd ⟨n0, sl, ob⟩) x = .elt s g i 0) (hy : (St.opd ⟨n0, sl, ob⟩) y = .v (natV v)) (ho : ob s = .row g true z (rowI l)) (ht : L.ti t = T) (hk : T.kd = 1)
    (hl : T.size = 1) : ActEv L ext ⟨d, .store t x y, ty, pos, af, gd⟩ ⟨n0, sl, ob⟩ .undef (upd ob s (.row g true z (rowI (l.set i v)))) [s] [s] := by
  have := a_storeI (L := L) (ext := ext) (d := d) (ty := ty) (pos := pos) (af := af) (gd := gd) hx hy rfl ho ⟨_, rowI_get he⟩ ht hk hl
  rw [rowI_set] at this
  exact this
theorem n_indexAddrP {t e : TypeId} {T E : TI} {x y : Operand} {k : IntKind} {a : Nat} {s g m z : Nat} {mt : Bool} {es : List (List V)} (hx : (St.opd ⟨n0, sl, ob⟩) x = .own s g 0 m) (hi : (St.opd ⟨n0, sl, ob⟩) y = .v (.lit (.int k (a : Int)))) (ho : ob s = .row g mt z es) (ht : L.ti t = T) (hu : T.und = .slice e) (he : L.ti e = E) (hz : z = E.size) (h1 : a < m) :
    ActEv L ext ⟨d, .indexAddr t x y, ty, pos, af, gd⟩ ⟨n0, sl, ob⟩ (.elt s g a 0) ob [s] [] := by
  have := n_indexAddrO (L := L) (ext := ext) (d := d) (ty := ty) (pos := pos) (af := af) (gd := gd) hx hi ho ht hu he hz h1
  rw [Nat.zero_add] at this
  exact this
theorem rowI_ex {l : List Nat} {i : Nat} (h : i < l.length) : ∃ w, (rowI l)[i]? = some [w] := ⟨_, rowI_get h⟩
end

end Go.Proofs.Ytgjochaacmkpaaa

namespace Go.Proofs.Ytgjochaacmkpaaa
open Go.Dv

set_option maxRecDepth 100000 in
theorem ev16V {S : List (List Nat)} (hS : ∀ W ∈ S, isW W) (hl : S.length ≤ 100000) : FnEv tab ext0 16 [.v (.sl 4 (rowS S))] [] (.ret [.sl 1 (rowI (clsRow S 256))], []) := by
  have e1 := rowS_len S
  refine fn_go _ rfl fn16 rfl rfl rfl ?_
  refine wC_seq ?_
  refine wC_reg ?_
  refine wS_set rfl rfl rfl (a_assignNil rfl (hT rfl) rfl (hT rfl)) ?_
  refine wO_nil ?_
  refine wC_seq ?_
  refine wC_reg ?_
  refine wS_set rfl rfl rfl (a_make (n := 256) rfl rfl (hT rfl) rfl (hT rfl) rfl rfl (by simp only [big]; omega) rfl rfl) ?_
  refine wS_set rfl rfl rfl (a_assign rfl rfl) ?_
  refine wO_nil ?_
  refine wC_seq ?_
  refine wC_reg ?_
  refine wS_set rfl rfl rfl (a_makeMap (hT rfl) rfl rfl) ?_
  refine wS_set rfl rfl rfl (a_assign rfl rfl) ?_
  refine wO_nil ?_
  refine wC_seq ?_
  refine wC_seq ?_
  refine wC_reg ?_
  refine wS_set rfl rfl rfl (a_move rfl rfl) ?_
  refine wS_set rfl rfl rfl (a_lenO rfl rfl (hT rfl) rfl) ?_
  refine wS_set rfl rfl rfl (a_move rfl rfl) ?_
  refine wO_nil ?_
  refine wC_block ?_
  refine wC_loop (fun k ρ => ∃ b, b + k = 256 ∧ PinSt 57 [(0, .v (.sl 4 (rowS S))), (3, .own 11 1 0 256), (4, .mapr 12 1), (14, natX .i64 256), (15, natX .i64 b)] [(11, .row 1 true 1 (rowI (outR S b))), (12, .mp 1 (mpE (clsK S b) 0))] ρ) (fun kb ρ hi => ?_) 256
    ⟨0, rfl, pinned_mk rfl ⟨rfl, rfl, rfl, rfl, rfl, trivial⟩ ⟨rfl, rfl, trivial⟩⟩
  obtain ⟨b, hm, hi⟩ := hi
  replace hi := hi.form
  obtain ⟨g, h, rfl⟩ := hi
  refine wC_seq ?_
  refine wC_reg ?_
  refine wS_set rfl rfl rfl (n_lss (b := 256) rfl rfl ) ?_
  refine wO_nil ?_
  refine wC_seq ?_
  refine wC_cond rfl (fun hc => ?_) (fun hc => ?_)
  · have hb : b < 256 := by simpa using hc
    have hKl := clsK_le S b
    refine wC_skip ?_
    refine wC_seq ?_
    refine wC_block ?_
    refine wC_seq ?_
    refine wC_reg ?_
    refine wS_set rfl rfl rfl (a_move rfl rfl) ?_
    refine wS_set rfl rfl rfl (a_assign rfl rfl) ?_
    refine wO_nil ?_
    refine wC_seq ?_
    refine wC_reg ?_
    refine wS_set rfl rfl rfl (a_move rfl rfl) ?_
    refine wS_set rfl rfl rfl (a_lenV rfl rfl (hT rfl) rfl) ?_
    refine wS_set rfl rfl rfl (a_make rfl rfl (hT rfl) rfl (hT rfl) rfl rfl (by simp only [big]; omega) rfl rfl) ?_
    refine wS_set rfl rfl rfl (a_assign rfl rfl) ?_
    refine wO_nil ?_
    refine wC_seq ?_
    refine wC_seq ?_
    refine wC_reg ?_
    refine wS_set rfl rfl rfl (a_move rfl rfl) ?_
    refine wS_set rfl rfl rfl (a_lenV rfl rfl (hT rfl) rfl) ?_
    refine wS_set rfl rfl rfl (a_move rfl rfl) ?_
    refine wO_nil ?_
    refine wC_block ?_
    refine wC_loop (fun k ρ => ∃ j, j + k = S.length ∧ PinSt 57 [(0, .v (.sl 4 (rowS S))), (3, .own 11 1 0 256), (4, .mapr 12 1), (5, natX .i64 b), (6, .own 20 ((h 20).gen + 1) 0 (rowS S).length), (14, natX .i64 256), (15, natX .i64 b), (21, .v (.sl 4 (rowS S))), (22, natX .i64 (rowS S).length), (23, natX .i64 j)]
      [(11, .row 1 true 1 (rowI (outR S b))), (12, .mp 1 (mpE (clsK S b) 0)), (20, .row ((h 20).gen + 1) true 1 (keyRow S b j))] ρ) (fun k ρ hi => ?_) S.length
      ⟨0, by omega, pinned_mk rfl ⟨rfl, rfl, rfl, rfl, rfl, rfl, rfl, rfl, rfl, rfl, trivial⟩ ⟨rfl, rfl, by rw [keyRow_0, ← e1]; rfl, trivial⟩⟩
    obtain ⟨j, hm', hi⟩ := hi
    generalize (h 20).gen + 1 = G at hi
    clear h g
    replace hi := hi.form
    obtain ⟨g, h, rfl⟩ := hi
    refine wC_seq ?_
    refine wC_reg ?_
    refine wS_set rfl rfl rfl (n_lss rfl rfl ) ?_
    refine wO_nil ?_
    refine wC_seq ?_
    refine wC_cond rfl (fun hc => ?_) (fun hc => ?_)
    · have hj : j < S.length := by rw [← e1]; simpa using hc
      have hW := hS _ (getD_mem hj)
      have hg := rowS_get hj
      refine wC_skip ?_
      refine wC_seq ?_
      refine wC_block ?_
      refine wC_seq ?_
      refine wC_reg ?_
      refine wS_set rfl rfl rfl (a_move rfl rfl) ?_
      refine wS_set rfl rfl rfl (n_indexAddrV (a := j) (es := rowS S) rfl rfl (hT rfl) rfl (hT rfl) rfl hg) ?_
      refine wS_set rfl rfl rfl (loadS (by assumption) rfl (hT rfl) rfl rfl) ?_
      refine wS_set rfl rfl rfl (a_alloc (hT rfl) rfl rfl) ?_
      refine wS_set rfl rfl rfl (a_assign rfl rfl) ?_
      refine wS_eff rfl rfl (a_storeW (by assumption) rfl rfl rfl rfl (hT rfl) rfl rfl) ?_
      refine wO_nil ?_
      refine wC_seq ?_
      refine wC_reg ?_
      refine wS_set rfl rfl rfl (a_load2 rfl rfl (hT rfl) rfl (by rw [cells_len (by assumption)]; exact Nat.le_refl _) (cells_load (by assumption))) ?_
      refine wS_set rfl rfl rfl (a_move rfl rfl) ?_
      refine wS_set rfl rfl rfl (n_conv rfl (hT rfl) rfl (hT rfl) rfl (by simp only [capN]; omega)) ?_
      refine wS_set rfl rfl rfl (a_call rfl rfl fn13 rfl rfl (has_ev (by omega) (by assumption))) ?_
      refine wO_nil ?_
      refine wC_cond rfl (fun hc => ?_) (fun hc => ?_)
      · refine wC_reg ?_
        refine wS_set rfl rfl rfl (a_move rfl rfl) ?_
        refine wS_set rfl rfl rfl (a_move rfl rfl) ?_
        refine wS_set rfl rfl rfl (n_indexAddrP rfl rfl rfl (hT rfl) rfl (hT rfl) rfl (by omega)) ?_
        refine wS_eff rfl rfl (a_storeI (v := byteV 1) rfl rfl rfl rfl ⟨_, keyRow_get S b hj⟩ (hT rfl) rfl rfl) ?_
        refine wO_nil ?_
        refine wC_reg ?_
        refine wS_set rfl rfl rfl (n_add (b := 1) rfl rfl (by simp only [capN]; omega)) ?_
        refine wS_set rfl rfl rfl (a_move rfl rfl) ?_
        refine wO_nil ?_
        refine ⟨k - 1, by omega, j + 1, by omega, pinned_mk rfl ⟨rfl, rfl, rfl, rfl, rfl, rfl, rfl, rfl, rfl, rfl, trivial⟩ ⟨rfl, rfl, ?_, trivial⟩⟩
        rw [← keyRow_t S b hj hc]
        rfl
      · refine wC_skip ?_
        refine wC_reg ?_
        refine wS_set rfl rfl rfl (n_add (b := 1) rfl rfl (by simp only [capN]; omega)) ?_
        refine wS_set rfl rfl rfl (a_move rfl rfl) ?_
        refine wO_nil ?_
        refine ⟨k - 1, by omega, j + 1, by omega, pinned_mk rfl ⟨rfl, rfl, rfl, rfl, rfl, rfl, rfl, rfl, rfl, rfl, trivial⟩ ⟨rfl, rfl, ?_, trivial⟩⟩
        rw [← keyRow_f S b hj hc]
        rfl
    · obtain rfl : j = S.length := by
        have : ¬ j < S.length := by rw [← e1]; simpa using hc
        omega
      have hby : bytesOf (((keyRow S b S.length).drop 0).take (rowS S).length) = some ((keyW S b).map bit8) := by
        rw [List.drop_zero, keyRow_end, e1, List.take_of_length_le (by simp [keyW]), key_bytes]
      have hf := mp_find (keyW S b) (clsK S b) 0 0
      by_cases hk : keyW S b ∈ clsK S b
      · rw [if_pos hk] at hf
        simp only [Nat.zero_add] at hf
        have hs : clsK S (b + 1) = clsK S b := by simp only [clsK]; rw [if_pos hk]
        refine wC_exit ?_
        refine wC_seq ?_
        refine wC_reg ?_
        refine wS_set rfl rfl rfl (a_move rfl rfl) ?_
        refine wS_set rfl rfl rfl (a_move rfl rfl) ?_
        refine wS_set rfl rfl rfl (a_convBytesO rfl rfl (hT rfl) rfl (hT rfl) rfl rfl (hT rfl) rfl hby) ?_
        refine wS_set rfl rfl rfl (a_lookupHit (kv := keyV (keyW S b)) rfl rfl rfl (hT rfl) rfl (hT rfl) rfl hf) ?_
        refine wS_set rfl rfl rfl (a_move rfl rfl) ?_
        refine wS_set rfl rfl rfl (a_extract rfl rfl) ?_
        refine wS_set rfl rfl rfl (a_extract rfl rfl) ?_
        refine wS_set rfl rfl rfl (a_assign rfl rfl) ?_
        refine wS_set rfl rfl rfl (a_assign rfl rfl) ?_
        refine wO_nil ?_
        refine wC_seq ?_
        refine wC_seq ?_
        refine wC_reg ?_
        refine wS_set rfl rfl rfl (a_move rfl rfl) ?_
        refine wS_set rfl rfl rfl (a_un rfl rfl) ?_
        refine wO_nil ?_
        refine wC_cond (p := false) rfl (fun hc => absurd hc (by decide)) (fun _ => ?_)
        refine wC_skip ?_
        refine wC_reg ?_
        refine wS_set rfl rfl rfl (a_move rfl rfl) ?_
        refine wS_set rfl rfl rfl (a_move rfl rfl) ?_
        refine wS_set rfl rfl rfl (a_move rfl rfl) ?_
        refine wS_set rfl rfl rfl (n_indexAddrP rfl rfl rfl (hT rfl) rfl (hT rfl) rfl (by omega)) ?_
        refine wS_eff rfl rfl (a_storeR (v := cls S b) (by rw [outR_len S (by omega)]; omega) rfl rfl rfl (hT rfl) rfl rfl) ?_
        refine wO_nil ?_
        refine wC_reg ?_
        refine wS_set rfl rfl rfl (n_add (b := 1) rfl rfl (by simp only [capN]; omega)) ?_
        refine wS_set rfl rfl rfl (a_move rfl rfl) ?_
        refine wO_nil ?_
        refine ⟨kb - 1, by omega, b + 1, by omega, pinned_mk rfl ⟨rfl, rfl, rfl, rfl, rfl, trivial⟩ ⟨?_, ?_, trivial⟩⟩
        · rw [← outR_set S hb]; rfl
        · rw [hs]; rfl
      · rw [if_neg hk] at hf
        have hs : clsK S (b + 1) = clsK S b ++ [keyW S b] := by simp only [clsK]; rw [if_neg hk]
        refine wC_exit ?_
        refine wC_seq ?_
        refine wC_reg ?_
        refine wS_set rfl rfl rfl (a_move rfl rfl) ?_
        refine wS_set rfl rfl rfl (a_move rfl rfl) ?_
        refine wS_set rfl rfl rfl (a_convBytesO rfl rfl (hT rfl) rfl (hT rfl) rfl rfl (hT rfl) rfl hby) ?_
        refine wS_set rfl rfl rfl (a_lookupMiss (kv := keyV (keyW S b)) (v := natV 0) rfl rfl rfl (hT rfl) rfl (hT rfl) rfl (by kernel_rfl) hf) ?_
        refine wS_set rfl rfl rfl (a_move rfl rfl) ?_
        refine wS_set rfl rfl rfl (a_extract rfl rfl) ?_
        refine wS_set rfl rfl rfl (a_extract rfl rfl) ?_
        refine wS_set rfl rfl rfl (a_assign rfl rfl) ?_
        refine wS_set rfl rfl rfl (a_assign rfl rfl) ?_
        refine wO_nil ?_
        refine wC_seq ?_
        refine wC_seq ?_
        refine wC_reg ?_
        refine wS_set rfl rfl rfl (a_move rfl rfl) ?_
        refine wS_set rfl rfl rfl (a_un rfl rfl) ?_
        refine wO_nil ?_
        refine wC_cond (p := true) rfl (fun _ => ?_) (fun hc => absurd hc (by decide))
        refine wC_seq ?_
        refine wC_reg ?_
        refine wS_set rfl rfl rfl (a_move rfl rfl) ?_
        refine wS_set rfl rfl rfl (a_lenM rfl rfl rfl (hT rfl) rfl) ?_
        refine wS_set rfl rfl rfl (a_assign rfl rfl) ?_
        refine wO_nil ?_
        refine wC_reg ?_
        refine wS_set rfl rfl rfl (a_move rfl rfl) ?_
        refine wS_set rfl rfl rfl (a_move rfl rfl) ?_
        refine wS_set rfl rfl rfl (a_convBytesO rfl rfl (hT rfl) rfl (hT rfl) rfl rfl (hT rfl) rfl hby) ?_
        refine wS_set rfl rfl rfl (a_move rfl rfl) ?_
        refine wS_eff rfl rfl (a_mapUpdate (kv := keyV (keyW S b)) (v := natV (mpE (clsK S b) 0).length) rfl rfl rfl rfl (hT rfl) rfl (hT rfl) rfl hf) ?_
        refine wO_nil ?_
        refine wC_reg ?_
        refine wS_set rfl rfl rfl (a_move rfl rfl) ?_
        refine wS_set rfl rfl rfl (a_move rfl rfl) ?_
        refine wS_set rfl rfl rfl (a_move rfl rfl) ?_
        refine wS_set rfl rfl rfl (n_indexAddrP rfl rfl rfl (hT rfl) rfl (hT rfl) rfl (by omega)) ?_
        refine wS_eff rfl rfl (a_storeR (v := (mpE (clsK S b) 0).length) (by rw [outR_len S (by omega)]; omega) rfl rfl rfl (hT rfl) rfl rfl) ?_
        refine wO_nil ?_
        refine wC_reg ?_
        refine wS_set rfl rfl rfl (n_add (b := 1) rfl rfl (by simp only [capN]; omega)) ?_
        refine wS_set rfl rfl rfl (a_move rfl rfl) ?_
        refine wO_nil ?_
        refine ⟨kb - 1, by omega, b + 1, by omega, pinned_mk rfl ⟨rfl, rfl, rfl, rfl, rfl, trivial⟩ ⟨?_, ?_, trivial⟩⟩
        · show Ob.row 1 true 1 (rowI ((outR S b).set b (mpE (clsK S b) 0).length)) = _
          rw [← outR_set S hb, mp_len]
          exact congrArg (fun x => Ob.row 1 true 1 (rowI ((outR S b).set b x))) (List.idxOf_eq_length hk).symm
        · show Ob.mp 1 (mpE (clsK S b) 0 ++ [(keyV (keyW S b), natV (mpE (clsK S b) 0).length)]) = _
          rw [hs, ← mp_app, Nat.zero_add, mp_len]
  · obtain rfl : b = 256 := by
      have : ¬ b < 256 := by simpa using hc
      omega
    refine wC_exit ?_
    refine wC_seq ?_
    refine wC_reg ?_
    refine wS_set rfl rfl rfl (a_move rfl rfl) ?_
    refine wS_set rfl rfl rfl (a_assign rfl rfl) ?_
    refine wO_nil ?_
    refine wC_ret ?_
    exact end_ownE rfl rfl rfl (by rw [List.drop_zero, outR_end]; exact List.take_of_length_le (by rw [rowI_len, clsRow_len]; exact Nat.le_refl _))

set_option maxRecDepth 100000 in
theorem ev16L {S : List (List Nat)} (hS : ∀ W ∈ S, isW W) (hl : S.length ≤ 100000) : FnEv tab ext0 16 [.lent 4 (rowS S)] [] (.ret [.sl 1 (rowI (clsRow S 256))], []) := by
  have e1 := rowS_len S
  refine fn_go _ rfl fn16 rfl rfl rfl ?_
  refine wC_seq ?_
  refine wC_reg ?_
  refine wS_set rfl rfl rfl (a_assignNil rfl (hT rfl) rfl (hT rfl)) ?_
  refine wO_nil ?_
  refine wC_seq ?_
  refine wC_reg ?_
  refine wS_set rfl rfl rfl (a_make (n := 256) rfl rfl (hT rfl) rfl (hT rfl) rfl rfl (by simp only [big]; omega) rfl rfl) ?_
  refine wS_set rfl rfl rfl (a_assign rfl rfl) ?_
  refine wO_nil ?_
  refine wC_seq ?_
  refine wC_reg ?_
  refine wS_set rfl rfl rfl (a_makeMap (hT rfl) rfl rfl) ?_
  refine wS_set rfl rfl rfl (a_assign rfl rfl) ?_
  refine wO_nil ?_
  refine wC_seq ?_
  refine wC_seq ?_
  refine wC_reg ?_
  refine wS_set rfl rfl rfl (a_move rfl rfl) ?_
  refine wS_set rfl rfl rfl (a_lenO rfl rfl (hT rfl) rfl) ?_
  refine wS_set rfl rfl rfl (a_move rfl rfl) ?_
  refine wO_nil ?_
  refine wC_block ?_
  refine wC_loop (fun k ρ => ∃ b, b + k = 256 ∧ PinSt 57 [(0, .lent 4 (rowS S)), (3, .own 11 1 0 256), (4, .mapr 12 1), (14, natX .i64 256), (15, natX .i64 b)] [(11, .row 1 true 1 (rowI (outR S b))), (12, .mp 1 (mpE (clsK S b) 0))] ρ) (fun kb ρ hi => ?_) 256
    ⟨0, rfl, pinned_mk rfl ⟨rfl, rfl, rfl, rfl, rfl, trivial⟩ ⟨rfl, rfl, trivial⟩⟩
  obtain ⟨b, hm, hi⟩ := hi
  replace hi := hi.form
  obtain ⟨g, h, rfl⟩ := hi
  refine wC_seq ?_
  refine wC_reg ?_
  refine wS_set rfl rfl rfl (n_lss (b := 256) rfl rfl ) ?_
  refine wO_nil ?_
  refine wC_seq ?_
  refine wC_cond rfl (fun hc => ?_) (fun hc => ?_)
  · have hb : b < 256 := by simpa using hc
    have hKl := clsK_le S b
    refine wC_skip ?_
    refine wC_seq ?_
    refine wC_block ?_
    refine wC_seq ?_
    refine wC_reg ?_
    refine wS_set rfl rfl rfl (a_move rfl rfl) ?_
    refine wS_set rfl rfl rfl (a_assign rfl rfl) ?_
    refine wO_nil ?_
    refine wC_seq ?_
    refine wC_reg ?_
    refine wS_set rfl rfl rfl (a_move rfl rfl) ?_
    refine wS_set rfl rfl rfl (a_lenL rfl rfl (hT rfl) rfl) ?_
    refine wS_set rfl rfl rfl (a_make rfl rfl (hT rfl) rfl (hT rfl) rfl rfl (by simp only [big]; omega) rfl rfl) ?_
    refine wS_set rfl rfl rfl (a_assign rfl rfl) ?_
    refine wO_nil ?_
    refine wC_seq ?_
    refine wC_seq ?_
    refine wC_reg ?_
    refine wS_set rfl rfl rfl (a_move rfl rfl) ?_
    refine wS_set rfl rfl rfl (a_lenL rfl rfl (hT rfl) rfl) ?_
    refine wS_set rfl rfl rfl (a_move rfl rfl) ?_
    refine wO_nil ?_
    refine wC_block ?_
    refine wC_loop (fun k ρ => ∃ j, j + k = S.length ∧ PinSt 57 [(0, .lent 4 (rowS S)), (3, .own 11 1 0 256), (4, .mapr 12 1), (5, natX .i64 b), (6, .own 20 ((h 20).gen + 1) 0 (rowS S).length), (14, natX .i64 256), (15, natX .i64 b), (21, .lent 4 (rowS S)), (22, natX .i64 (rowS S).length), (23, natX .i64 j)]
      [(11, .row 1 true 1 (rowI (outR S b))), (12, .mp 1 (mpE (clsK S b) 0)), (20, .row ((h 20).gen + 1) true 1 (keyRow S b j))] ρ) (fun k ρ hi => ?_) S.length
      ⟨0, by omega, pinned_mk rfl ⟨rfl, rfl, rfl, rfl, rfl, rfl, rfl, rfl, rfl, rfl, trivial⟩ ⟨rfl, rfl, by rw [keyRow_0, ← e1]; rfl, trivial⟩⟩
    obtain ⟨j, hm', hi⟩ := hi
    generalize (h 20).gen + 1 = G at hi
    clear h g
    replace hi := hi.form
    obtain ⟨g, h, rfl⟩ := hi
    refine wC_seq ?_
    refine wC_reg ?_
    refine wS_set rfl rfl rfl (n_lss rfl rfl ) ?_
    refine wO_nil ?_
    refine wC_seq ?_
    refine wC_cond rfl (fun hc => ?_) (fun hc => ?_)
    · have hj : j < S.length := by rw [← e1]; simpa using hc
      have hW := hS _ (getD_mem hj)
      have hg := rowS_get hj
      refine wC_skip ?_
      refine wC_seq ?_
      refine wC_block ?_
      refine wC_seq ?_
      refine wC_reg ?_
      refine wS_set rfl rfl rfl (a_move rfl rfl) ?_
      refine wS_set rfl rfl rfl (n_indexAddrL (a := j) (es := rowS S) rfl rfl (hT rfl) rfl (hT rfl) rfl hg) ?_
      refine wS_set rfl rfl rfl (loadS (by assumption) rfl (hT rfl) rfl rfl) ?_
      refine wS_set rfl rfl rfl (a_alloc (hT rfl) rfl rfl) ?_
      refine wS_set rfl rfl rfl (a_assign rfl rfl) ?_
      refine wS_eff rfl rfl (a_storeW (by assumption) rfl rfl rfl rfl (hT rfl) rfl rfl) ?_
      refine wO_nil ?_
      refine wC_seq ?_
      refine wC_reg ?_
      refine wS_set rfl rfl rfl (a_load2 rfl rfl (hT rfl) rfl (by rw [cells_len (by assumption)]; exact Nat.le_refl _) (cells_load (by assumption))) ?_
      refine wS_set rfl rfl rfl (a_move rfl rfl) ?_
      refine wS_set rfl rfl rfl (n_conv rfl (hT rfl) rfl (hT rfl) rfl (by simp only [capN]; omega)) ?_
      refine wS_set rfl rfl rfl (a_call rfl rfl fn13 rfl rfl (has_ev (by omega) (by assumption))) ?_
      refine wO_nil ?_
      refine wC_cond rfl (fun hc => ?_) (fun hc => ?_)
      · refine wC_reg ?_
        refine wS_set rfl rfl rfl (a_move rfl rfl) ?_
        refine wS_set rfl rfl rfl (a_move rfl rfl) ?_
        refine wS_set rfl rfl rfl (n_indexAddrP rfl rfl rfl (hT rfl) rfl (hT rfl) rfl (by omega)) ?_
        refine wS_eff rfl rfl (a_storeI (v := byteV 1) rfl rfl rfl rfl ⟨_, keyRow_get S b hj⟩ (hT rfl) rfl rfl) ?_
        refine wO_nil ?_
        refine wC_reg ?_
        refine wS_set rfl rfl rfl (n_add (b := 1) rfl rfl (by simp only [capN]; omega)) ?_
        refine wS_set rfl rfl rfl (a_move rfl rfl) ?_
        refine wO_nil ?_
        refine ⟨k - 1, by omega, j + 1, by omega, pinned_mk rfl ⟨rfl, rfl, rfl, rfl, rfl, rfl, rfl, rfl, rfl, rfl, trivial⟩ ⟨rfl, rfl, ?_, trivial⟩⟩
        rw [← keyRow_t S b hj hc]
        rfl
      · refine wC_skip ?_
        refine wC_reg ?_
        refine wS_set rfl rfl rfl (n_add (b := 1) rfl rfl (by simp only [capN]; omega)) ?_
        refine wS_set rfl rfl rfl (a_move rfl rfl) ?_
        refine wO_nil ?_
        refine ⟨k - 1, by omega, j + 1, by omega, pinned_mk rfl ⟨rfl, rfl, rfl, rfl, rfl, rfl, rfl, rfl, rfl, rfl, trivial⟩ ⟨rfl, rfl, ?_, trivial⟩⟩
        rw [← keyRow_f S b hj hc]
        rfl
    · obtain rfl : j = S.length := by
        have : ¬ j < S.length := by rw [← e1]; simpa using hc
        omega
      have hby : bytesOf (((keyRow S b S.length).drop 0).take (rowS S).length) = some ((keyW S b).map bit8) := by
        rw [List.drop_zero, keyRow_end, e1, List.take_of_length_le (by simp [keyW]), key_bytes]
      have hf := mp_find (keyW S b) (clsK S b) 0 0
      by_cases hk : keyW S b ∈ clsK S b
      · rw [if_pos hk] at hf
        simp only [Nat.zero_add] at hf
        have hs : clsK S (b + 1) = clsK S b := by simp only [clsK]; rw [if_pos hk]
        refine wC_exit ?_
        refine wC_seq ?_
        refine wC_reg ?_
        refine wS_set rfl rfl rfl (a_move rfl rfl) ?_
        refine wS_set rfl rfl rfl (a_move rfl rfl) ?_
        refine wS_set rfl rfl rfl (a_convBytesO rfl rfl (hT rfl) rfl (hT rfl) rfl rfl (hT rfl) rfl hby) ?_
        refine wS_set rfl rfl rfl (a_lookupHit (kv := keyV (keyW S b)) rfl rfl rfl (hT rfl) rfl (hT rfl) rfl hf) ?_
        refine wS_set rfl rfl rfl (a_move rfl rfl) ?_
        refine wS_set rfl rfl rfl (a_extract rfl rfl) ?_
        refine wS_set rfl rfl rfl (a_extract rfl rfl) ?_
        refine wS_set rfl rfl rfl (a_assign rfl rfl) ?_
        refine wS_set rfl rfl rfl (a_assign rfl rfl) ?_
        refine wO_nil ?_
        refine wC_seq ?_
        refine wC_seq ?_
        refine wC_reg ?_
        refine wS_set rfl rfl rfl (a_move rfl rfl) ?_
        refine wS_set rfl rfl rfl (a_un rfl rfl) ?_
        refine wO_nil ?_
        refine wC_cond (p := false) rfl (fun hc => absurd hc (by decide)) (fun _ => ?_)
        refine wC_skip ?_
        refine wC_reg ?_
        refine wS_set rfl rfl rfl (a_move rfl rfl) ?_
        refine wS_set rfl rfl rfl (a_move rfl rfl) ?_
        refine wS_set rfl rfl rfl (a_move rfl rfl) ?_
        refine wS_set rfl rfl rfl (n_indexAddrP rfl rfl rfl (hT rfl) rfl (hT rfl) rfl (by omega)) ?_
        refine wS_eff rfl rfl (a_storeR (v := cls S b) (by rw [outR_len S (by omega)]; omega) rfl rfl rfl (hT rfl) rfl rfl) ?_
        refine wO_nil ?_
        refine wC_reg ?_
        refine wS_set rfl rfl rfl (n_add (b := 1) rfl rfl (by simp only [capN]; omega)) ?_
        refine wS_set rfl rfl rfl (a_move rfl rfl) ?_
        refine wO_nil ?_
        refine ⟨kb - 1, by omega, b + 1, by omega, pinned_mk rfl ⟨rfl, rfl, rfl, rfl, rfl, trivial⟩ ⟨?_, ?_, trivial⟩⟩
        · rw [← outR_set S hb]; rfl
        · rw [hs]; rfl
      · rw [if_neg hk] at hf
        have hs : clsK S (b + 1) = clsK S b ++ [keyW S b] := by simp only [clsK]; rw [if_neg hk]
        refine wC_exit ?_
        refine wC_seq ?_
        refine wC_reg ?_
        refine wS_set rfl rfl rfl (a_move rfl rfl) ?_
        refine wS_set rfl rfl rfl (a_move rfl rfl) ?_
        refine wS_set rfl rfl rfl (a_convBytesO rfl rfl (hT rfl) rfl (hT rfl) rfl rfl (hT rfl) rfl hby) ?_
        refine wS_set rfl rfl rfl (a_lookupMiss (kv := keyV (keyW S b)) (v := natV 0) rfl rfl rfl (hT rfl) rfl (hT rfl) rfl (by kernel_rfl) hf) ?_
        refine wS_set rfl rfl rfl (a_move rfl rfl) ?_
        refine wS_set rfl rfl rfl (a_extract rfl rfl) ?_
        refine wS_set rfl rfl rfl (a_extract rfl rfl) ?_
        refine wS_set rfl rfl rfl (a_assign rfl rfl) ?_
        refine wS_set rfl rfl rfl (a_assign rfl rfl) ?_
        refine wO_nil ?_
        refine wC_seq ?_
        refine wC_seq ?_
        refine wC_reg ?_
        refine wS_set rfl rfl rfl (a_move rfl rfl) ?_
        refine wS_set rfl rfl rfl (a_un rfl rfl) ?_
        refine wO_nil ?_
        refine wC_cond (p := true) rfl (fun _ => ?_) (fun hc => absurd hc (by decide))
        refine wC_seq ?_
        refine wC_reg ?_
        refine wS_set rfl rfl rfl (a_move rfl rfl) ?_
        refine wS_set rfl rfl rfl (a_lenM rfl rfl rfl (hT rfl) rfl) ?_
        refine wS_set rfl rfl rfl (a_assign rfl rfl) ?_
        refine wO_nil ?_
        refine wC_reg ?_
        refine wS_set rfl rfl rfl (a_move rfl rfl) ?_
        refine wS_set rfl rfl rfl (a_move rfl rfl) ?_
        refine wS_set rfl rfl rfl (a_convBytesO rfl rfl (hT rfl) rfl (hT rfl) rfl rfl (hT rfl) rfl hby) ?_
        refine wS_set rfl rfl rfl (a_move rfl rfl) ?_
        refine wS_eff rfl rfl (a_mapUpdate (kv := keyV (keyW S b)) (v := natV (mpE (clsK S b) 0).length) rfl rfl rfl rfl (hT rfl) rfl (hT rfl) rfl hf) ?_
        refine wO_nil ?_
        refine wC_reg ?_
        refine wS_set rfl rfl rfl (a_move rfl rfl) ?_
        refine wS_set rfl rfl rfl (a_move rfl rfl) ?_
        refine wS_set rfl rfl rfl (a_move rfl rfl) ?_
        refine wS_set rfl rfl rfl (n_indexAddrP rfl rfl rfl (hT rfl) rfl (hT rfl) rfl (by omega)) ?_
        refine wS_eff rfl rfl (a_storeR (v := (mpE (clsK S b) 0).length) (by rw [outR_len S (by omega)]; omega) rfl rfl rfl (hT rfl) rfl rfl) ?_
        refine wO_nil ?_
        refine wC_reg ?_
        refine wS_set rfl rfl rfl (n_add (b := 1) rfl rfl (by simp only [capN]; omega)) ?_
        refine wS_set rfl rfl rfl (a_move rfl rfl) ?_
        refine wO_nil ?_
        refine ⟨kb - 1, by omega, b + 1, by omega, pinned_mk rfl ⟨rfl, rfl, rfl, rfl, rfl, trivial⟩ ⟨?_, ?_, trivial⟩⟩
        · show Ob.row 1 true 1 (rowI ((outR S b).set b (mpE (clsK S b) 0).length)) = _
          rw [← outR_set S hb, mp_len]
          exact congrArg (fun x => Ob.row 1 true 1 (rowI ((outR S b).set b x))) (List.idxOf_eq_length hk).symm
        · show Ob.mp 1 (mpE (clsK S b) 0 ++ [(keyV (keyW S b), natV (mpE (clsK S b) 0).length)]) = _
          rw [hs, ← mp_app, Nat.zero_add, mp_len]
  · obtain rfl : b = 256 := by
      have : ¬ b < 256 := by simpa using hc
      omega
    refine wC_exit ?_
    refine wC_seq ?_
    refine wC_reg ?_
    refine wS_set rfl rfl rfl (a_move rfl rfl) ?_
    refine wS_set rfl rfl rfl (a_assign rfl rfl) ?_
    refine wO_nil ?_
    refine wC_ret ?_
    exact end_ownE rfl rfl rfl (by rw [List.drop_zero, outR_end]; exact List.take_of_length_le (by rw [rowI_len, clsRow_len]; exact Nat.le_refl _))

end Go.Proofs.Ytgjochaacmkpaaa

namespace Go.Proofs.Ytgjochaacmkpaaa
open Go.Dv

/-- The numbers grow by one with each new key. -/
theorem clsK_nd (S : List (List Nat)) : ∀ n, (clsK S n).Nodup
  | 0 => List.nodup_nil
  | n + 1 => by
    have ih := clsK_nd S n
    simp only [clsK]
    split
    · exact ih
    · rename_i h
      rw [List.nodup_append]
      refine ⟨ih, by simp, fun a ha b hb => ?_⟩
      simp only [List.mem_singleton] at hb
      subst hb
      exact fun e => h (e ▸ ha)
theorem clsK_mem (S : List (List Nat)) {j : Nat} : ∀ {n : Nat}, j < n → keyW S j ∈ clsK S n
  | 0, h => absurd h (Nat.not_lt_zero _)
  | n + 1, h => by
    simp only [clsK]
    by_cases e : j = n
    · subst e
      split
      · assumption
      · exact List.mem_append_right _ (List.mem_singleton.2 rfl)
    · have := clsK_mem S (j := j) (n := n) (by omega)
      split
      · exact this
      · exact List.mem_append_left _ this
theorem clsK_from (S : List (List Nat)) {k : List Bool} : ∀ {n : Nat}, k ∈ clsK S n → ∃ j, j < n ∧ keyW S j = k
  | 0, h => by simp [clsK] at h
  | n + 1, h => by
    simp only [clsK] at h
    split at h
    · obtain ⟨j, hj, e⟩ := clsK_from S h
      exact ⟨j, by omega, e⟩
    · rcases List.mem_append.1 h with h | h
      · obtain ⟨j, hj, e⟩ := clsK_from S h
        exact ⟨j, by omega, e⟩
      · exact ⟨n, by omega, (List.mem_singleton.1 h).symm⟩
/-- Where a key lies does not change. -/
theorem clsK_idx (S : List (List Nat)) {k : List Bool} {n : Nat} : ∀ {m : Nat}, n ≤ m → k ∈ clsK S n → (clsK S m).idxOf k = (clsK S n).idxOf k
  | 0, h, hk => by
    have : n = 0 := by omega
    subst this; rfl
  | m + 1, h, hk => by
    by_cases e : n = m + 1
    · subst e; rfl
    · have ih := clsK_idx S (m := m) (by omega) hk
      have hm : k ∈ clsK S m := by
        obtain ⟨j, hj, e⟩ := clsK_from S hk
        exact e ▸ clsK_mem S (by omega)
      simp only [clsK]
      split
      · exact ih
      · rw [List.idxOf_append, if_pos hm]; exact ih
theorem cls_idx (S : List (List Nat)) {j n : Nat} (h : j < n) : cls S j = (clsK S n).idxOf (keyW S j) := by
  have e : cls S j = (clsK S (j + 1)).idxOf (keyW S j) := by
    simp only [cls, clsK]
    split
    · rfl
    · rename_i h
      rw [List.idxOf_append]
      simp [h, List.idxOf_eq_length h]
  rw [e]
  exact (clsK_idx S (by omega) (clsK_mem S (by omega))).symm
theorem cls_eq (S : List (List Nat)) {i j : Nat} : cls S i = cls S j ↔ keyW S i = keyW S j := by
  have hi := clsK_mem S (j := i) (n := i + j + 1) (by omega)
  have hj := clsK_mem S (j := j) (n := i + j + 1) (by omega)
  rw [cls_idx S (j := i) (n := i + j + 1) (by omega), cls_idx S (j := j) (n := i + j + 1) (by omega)]
  constructor
  · intro e
    have h1 := List.getElem_idxOf (List.idxOf_lt_length_iff.2 hi)
    have h2 := List.getElem_idxOf (List.idxOf_lt_length_iff.2 hj)
    rw [← h1, ← h2]
    simp only [e]
  · intro e; rw [e]
theorem cls_old (S : List (List Nat)) {i j : Nat} (h : j < i) (e : keyW S j = keyW S i) : cls S i = cls S j := (cls_eq S).2 e.symm
theorem cls_new (S : List (List Nat)) {i : Nat} (h : ∀ j, j < i → ¬ keyW S j = keyW S i) : cls S i = (clsK S i).length := by
  refine List.idxOf_eq_length fun hm => ?_
  obtain ⟨j, hj, e⟩ := clsK_from S hm
  exact h j hj e
theorem cls_lt (S : List (List Nat)) {i j : Nat} (h : j < i) (e : keyW S j = keyW S i) : cls S i < (clsK S i).length :=
  List.idxOf_lt_length_iff.2 (e ▸ clsK_mem S h)
theorem clsK_old (S : List (List Nat)) {i j : Nat} (h : j < i) (e : keyW S j = keyW S i) : clsK S (i + 1) = clsK S i := by
  simp only [clsK]; rw [if_pos (e ▸ clsK_mem S h)]
theorem clsK_new (S : List (List Nat)) {i : Nat} (h : ∀ j, j < i → ¬ keyW S j = keyW S i) : (clsK S (i + 1)).length = (clsK S i).length + 1 := by
  simp only [clsK]; rw [if_neg fun hm => by obtain ⟨j, hj, e⟩ := clsK_from S hm; exact h j hj e]; simp
theorem eqv_key (S : List (List Nat)) (a b : Nat) : eqvW S a b = decide (keyW S a = keyW S b) := by
  induction S with
  | nil => simp [eqvW, keyW]
  | cons W S ih =>
    have e1 : eqvW (W :: S) a b = ((has W a == has W b) && eqvW S a b) := rfl
    have e2 : keyW (W :: S) a = has W a :: keyW S a := rfl
    have e3 : keyW (W :: S) b = has W b :: keyW S b := rfl
    rw [e1, e2, e3, ih]
    cases has W a <;> cases has W b <;> simp
theorem outR_get (S : List (List Nat)) {n j : Nat} (h : j < n) : (outR S n).getD j 0 = cls S j := by
  simp only [outR, List.getD_eq_getElem?_getD]
  rw [List.getElem?_append_left (by rw [clsRow_len]; exact h)]
  simp [clsRow, List.getElem?_range h]
theorem clsRow_get (S : List (List Nat)) {n j : Nat} (h : j < n) : (clsRow S n).getD j 0 = cls S j := by
  simp only [List.getD_eq_getElem?_getD]
  simp [clsRow, List.getElem?_range h]
end Go.Proofs.Ytgjochaacmkpaaa

namespace Go.Proofs.Ytgjochaacmkpaaa
open Go.Dv

set_option maxRecDepth 100000 in
theorem ev17V {S : List (List Nat)} (hS : ∀ W ∈ S, isW W) (hl : S.length ≤ 100000) : FnEv tab ext0 17 [.v (.sl 4 (rowS S))] [] (.ret [.sl 1 (rowI (clsRow S 256))], []) := by
  have e1 := rowS_len S
  refine fn_go _ rfl fn17 rfl rfl rfl ?_
  refine wC_seq ?_
  refine wC_reg ?_
  refine wS_set rfl rfl rfl (a_assignNil rfl (hT rfl) rfl (hT rfl)) ?_
  refine wO_nil ?_
  refine wC_seq ?_
  refine wC_reg ?_
  refine wS_set rfl rfl rfl (a_make (n := 256) rfl rfl (hT rfl) rfl (hT rfl) rfl rfl (by simp only [big]; omega) rfl rfl) ?_
  refine wS_set rfl rfl rfl (a_assign rfl rfl) ?_
  refine wO_nil ?_
  refine wC_seq ?_
  refine wC_reg ?_
  refine wS_set rfl rfl rfl (a_assign rfl rfl) ?_
  refine wO_nil ?_
  refine wC_seq ?_
  refine wC_seq ?_
  refine wC_reg ?_
  refine wS_set rfl rfl rfl (a_assign rfl rfl) ?_
  refine wO_nil ?_
  refine wC_block ?_
  refine wC_loop (fun k ρ => ∃ b, b + k = 256 ∧ PinSt 43 [(0, .v (.sl 4 (rowS S))), (3, .own 7 1 0 256), (4, natX .i64 (clsK S b).length), (5, natX .i64 b)] [(7, .row 1 true 1 (rowI (outR S b)))] ρ) (fun kb ρ hi => ?_) 256
    ⟨0, rfl, pinned_mk rfl ⟨rfl, rfl, rfl, rfl, trivial⟩ ⟨rfl, trivial⟩⟩
  obtain ⟨b, hm, hi⟩ := hi
  replace hi := hi.form
  obtain ⟨g, h, rfl⟩ := hi
  refine wC_seq ?_
  refine wC_seq ?_
  refine wC_reg ?_
  refine wS_set rfl rfl rfl (a_move rfl rfl) ?_
  refine wS_set rfl rfl rfl (n_lss (b := 256) rfl rfl ) ?_
  refine wO_nil ?_
  refine wC_cond rfl (fun hc => ?_) (fun hc => ?_)
  · have hb : b < 256 := by simpa using hc
    have hKl := clsK_le S b
    have hol := outR_len S (show b ≤ 256 by omega)
    refine wC_skip ?_
    refine wC_seq ?_
    refine wC_block ?_
    refine wC_seq ?_
    refine wC_reg ?_
    refine wS_set rfl rfl rfl (a_move rfl rfl) ?_
    refine wS_set rfl rfl rfl (a_move rfl rfl) ?_
    refine wS_set rfl rfl rfl (a_move rfl rfl) ?_
    refine wS_set rfl rfl rfl (n_indexAddrP rfl rfl rfl (hT rfl) rfl (hT rfl) rfl (by omega)) ?_
    refine wS_eff rfl rfl (a_storeR (v := (clsK S b).length) (by omega) rfl rfl rfl (hT rfl) rfl rfl) ?_
    refine wO_nil ?_
    refine wC_seq ?_
    refine wC_seq ?_
    refine wC_reg ?_
    refine wS_set rfl rfl rfl (a_assign rfl rfl) ?_
    refine wO_nil ?_
    refine wC_block ?_
    refine wC_loop (fun k ρ => ∃ j, j + k = b ∧ (∀ i, i < j → ¬ keyW S i = keyW S b) ∧ PinSt 43 [(0, .v (.sl 4 (rowS S))), (3, .own 7 1 0 256), (4, natX .i64 (clsK S b).length), (5, natX .i64 b), (6, natX .i64 j)]
      [(7, .row 1 true 1 (rowI ((outR S b).set b (clsK S b).length)))] ρ) (fun k ρ hi => ?_) b
      ⟨0, by omega, fun i hi => absurd hi (Nat.not_lt_zero _), pinned_mk rfl ⟨rfl, rfl, rfl, rfl, rfl, trivial⟩ ⟨rfl, trivial⟩⟩
    obtain ⟨j, hm', hno, hi⟩ := hi
    clear h g
    replace hi := hi.form
    obtain ⟨g, h, rfl⟩ := hi
    have hol' : ((outR S b).set b (clsK S b).length).length = 256 := by rw [List.length_set]; exact hol
    refine wC_seq ?_
    refine wC_seq ?_
    refine wC_reg ?_
    refine wS_set rfl rfl rfl (a_move rfl rfl) ?_
    refine wS_set rfl rfl rfl (a_move rfl rfl) ?_
    refine wS_set rfl rfl rfl (n_lss rfl rfl ) ?_
    refine wO_nil ?_
    refine wC_cond rfl (fun hc => ?_) (fun hc => ?_)
    · have hj : j < b := by simpa using hc
      have hge : ((outR S b).set b (clsK S b).length).getD j 0 = cls S j := by
        rw [List.getD_eq_getElem?_getD, List.getElem?_set_ne (by omega), ← List.getD_eq_getElem?_getD, outR_get S hj]
      refine wC_skip ?_
      refine wC_seq ?_
      refine wC_block ?_
      refine wC_seq ?_
      refine wC_reg ?_
      refine wS_set rfl rfl rfl (a_move rfl rfl) ?_
      refine wS_set rfl rfl rfl (a_move rfl rfl) ?_
      refine wS_set rfl rfl rfl (n_conv rfl (hT rfl) rfl (hT rfl) rfl (by simp only [capN]; omega)) ?_
      refine wS_set rfl rfl rfl (a_move rfl rfl) ?_
      refine wS_set rfl rfl rfl (n_conv rfl (hT rfl) rfl (hT rfl) rfl (by simp only [capN]; omega)) ?_
      refine wS_set rfl rfl rfl (a_call rfl rfl fn27 rfl rfl (ev27V hS (by omega) (by omega) (by omega))) ?_
      refine wO_nil ?_
      refine wC_cond rfl (fun hc => ?_) (fun hc => ?_)
      · have hk : keyW S j = keyW S b := by
          have : eqvW S j b = true := hc
          rw [eqv_key] at this
          simpa using this
        have h1 := cls_old S hj hk
        have h2 := cls_lt S hj hk
        have h3 := clsK_old S hj hk
        refine wC_seq ?_
        refine wC_reg ?_
        refine wS_set rfl rfl rfl (a_move rfl rfl) ?_
        refine wS_set rfl rfl rfl (a_move rfl rfl) ?_
        refine wS_set rfl rfl rfl (a_move rfl rfl) ?_
        refine wS_set rfl rfl rfl (a_move rfl rfl) ?_
        refine wS_set rfl rfl rfl (n_indexAddrP rfl rfl rfl (hT rfl) rfl (hT rfl) rfl (by omega)) ?_
        refine wS_set rfl rfl rfl (a_loadI rfl rfl (by first | omega | (simp only [List.length_set]; omega)) (hT rfl) rfl) ?_
        refine wS_set rfl rfl rfl (n_indexAddrP rfl rfl rfl (hT rfl) rfl (hT rfl) rfl (by omega)) ?_
        refine wS_eff rfl rfl (a_storeR (by first | omega | (simp only [List.length_set]; omega)) rfl rfl rfl (hT rfl) rfl rfl) ?_
        refine wO_nil ?_
        refine wC_exit ?_
        refine wC_seq ?_
        refine wC_reg ?_
        refine wS_set rfl rfl rfl (a_move rfl rfl) ?_
        refine wS_set rfl rfl rfl (a_move rfl rfl) ?_
        refine wS_set rfl rfl rfl (n_indexAddrP rfl rfl rfl (hT rfl) rfl (hT rfl) rfl (by omega)) ?_
        refine wS_set rfl rfl rfl (a_loadI rfl rfl (by first | omega | (simp only [List.length_set]; omega)) (hT rfl) rfl) ?_
        refine wS_set rfl rfl rfl (a_move rfl rfl) ?_
        refine wS_set rfl rfl rfl (n_eql rfl rfl ) ?_
        refine wO_nil ?_
        have hv : ((((outR S b).set b (clsK S b).length).set b (((outR S b).set b (clsK S b).length).getD j 0))).getD b 0 = cls S b := by
          rw [List.getD_eq_getElem?_getD, List.getElem?_set_self (by omega), h1]
          exact hge
        refine wC_cond rfl (fun hc => ?_) (fun hc => ?_)
        · exfalso
          have := of_decide_eq_true hc
          omega
        · refine wC_skip ?_
          refine wC_reg ?_
          refine wS_set rfl rfl rfl (a_move rfl rfl) ?_
          refine wS_set rfl rfl rfl (n_add (b := 1) rfl rfl (by simp only [capN]; omega)) ?_
          refine wS_set rfl rfl rfl (a_assign rfl rfl) ?_
          refine wO_nil ?_
          refine ⟨kb - 1, by omega, b + 1, by omega, pinned_mk rfl ⟨rfl, rfl, congrArg (fun K : List (List Bool) => natX .i64 K.length) h3.symm, rfl, trivial⟩ ⟨?_, trivial⟩⟩
          rw [← outR_set S hb, h1, ← hge]
          show Ob.row 1 true 1 (rowI (((outR S b).set b (clsK S b).length).set b (((outR S b).set b (clsK S b).length).getD j 0))) = _
          rw [List.set_set]
      · have hk : ¬ keyW S j = keyW S b := by
          have : eqvW S j b = false := hc
          rw [eqv_key] at this
          simpa using this
        refine wC_skip ?_
        refine wC_reg ?_
        refine wS_set rfl rfl rfl (a_move rfl rfl) ?_
        refine wS_set rfl rfl rfl (n_add (b := 1) rfl rfl (by simp only [capN]; omega)) ?_
        refine wS_set rfl rfl rfl (a_assign rfl rfl) ?_
        refine wO_nil ?_
        refine ⟨k - 1, by omega, j + 1, by omega, fun i hi => ?_, pinned_mk rfl ⟨rfl, rfl, rfl, rfl, rfl, trivial⟩ ⟨rfl, trivial⟩⟩
        by_cases e : i = j
        · subst e; exact hk
        · exact hno i (by omega)
    · obtain rfl : j = b := by
        have : ¬ j < b := by simpa using hc
        omega
      have h1 := cls_new S hno
      have h3 := clsK_new S hno
      refine wC_exit ?_
      refine wC_seq ?_
      refine wC_reg ?_
      refine wS_set rfl rfl rfl (a_move rfl rfl) ?_
      refine wS_set rfl rfl rfl (a_move rfl rfl) ?_
      refine wS_set rfl rfl rfl (n_indexAddrP rfl rfl rfl (hT rfl) rfl (hT rfl) rfl (by omega)) ?_
      refine wS_set rfl rfl rfl (a_loadI rfl rfl (by first | omega | (simp only [List.length_set]; omega)) (hT rfl) rfl) ?_
      refine wS_set rfl rfl rfl (a_move rfl rfl) ?_
      refine wS_set rfl rfl rfl (n_eql rfl rfl ) ?_
      refine wO_nil ?_
      have hv : ((outR S j).set j (clsK S j).length).getD j 0 = (clsK S j).length := by
        rw [List.getD_eq_getElem?_getD, List.getElem?_set_self (by omega)]; rfl
      refine wC_cond rfl (fun hc => ?_) (fun hc => ?_)
      · refine wC_reg ?_
        refine wS_set rfl rfl rfl (a_move rfl rfl) ?_
        refine wS_set rfl rfl rfl (n_add (b := 1) rfl rfl (by simp only [capN]; omega)) ?_
        refine wS_set rfl rfl rfl (a_assign rfl rfl) ?_
        refine wO_nil ?_
        refine wC_reg ?_
        refine wS_set rfl rfl rfl (a_move rfl rfl) ?_
        refine wS_set rfl rfl rfl (n_add (b := 1) rfl rfl (by simp only [capN]; omega)) ?_
        refine wS_set rfl rfl rfl (a_assign rfl rfl) ?_
        refine wO_nil ?_
        refine ⟨kb - 1, by omega, j + 1, by omega, pinned_mk rfl ⟨rfl, rfl, congrArg (natX .i64) h3.symm, rfl, trivial⟩ ⟨?_, trivial⟩⟩
        rw [← outR_set S hb, h1]
        rfl
      · exfalso
        have := of_decide_eq_false hc
        exact this hv
  · obtain rfl : b = 256 := by
      have : ¬ b < 256 := by simpa using hc
      omega
    refine wC_exit ?_
    refine wC_seq ?_
    refine wC_reg ?_
    refine wS_set rfl rfl rfl (a_move rfl rfl) ?_
    refine wS_set rfl rfl rfl (a_assign rfl rfl) ?_
    refine wO_nil ?_
    refine wC_ret ?_
    exact end_ownE rfl rfl rfl (by rw [List.drop_zero, outR_end]; exact List.take_of_length_le (by rw [rowI_len, clsRow_len]; exact Nat.le_refl _))

set_option maxRecDepth 100000 in
theorem ev17L {S : List (List Nat)} (hS : ∀ W ∈ S, isW W) (hl : S.length ≤ 100000) : FnEv tab ext0 17 [.lent 4 (rowS S)] [] (.ret [.sl 1 (rowI (clsRow S 256))], []) := by
  have e1 := rowS_len S
  refine fn_go _ rfl fn17 rfl rfl rfl ?_
  refine wC_seq ?_
  refine wC_reg ?_
  refine wS_set rfl rfl rfl (a_assignNil rfl (hT rfl) rfl (hT rfl)) ?_
  refine wO_nil ?_
  refine wC_seq ?_
  refine wC_reg ?_
  refine wS_set rfl rfl rfl (a_make (n := 256) rfl rfl (hT rfl) rfl (hT rfl) rfl rfl (by simp only [big]; omega) rfl rfl) ?_
  refine wS_set rfl rfl rfl (a_assign rfl rfl) ?_
  refine wO_nil ?_
  refine wC_seq ?_
  refine wC_reg ?_
  refine wS_set rfl rfl rfl (a_assign rfl rfl) ?_
  refine wO_nil ?_
  refine wC_seq ?_
  refine wC_seq ?_
  refine wC_reg ?_
  refine wS_set rfl rfl rfl (a_assign rfl rfl) ?_
  refine wO_nil ?_
  refine wC_block ?_
  refine wC_loop (fun k ρ => ∃ b, b + k = 256 ∧ PinSt 43 [(0, .lent 4 (rowS S)), (3, .own 7 1 0 256), (4, natX .i64 (clsK S b).length), (5, natX .i64 b)] [(7, .row 1 true 1 (rowI (outR S b)))] ρ) (fun kb ρ hi => ?_) 256
    ⟨0, rfl, pinned_mk rfl ⟨rfl, rfl, rfl, rfl, trivial⟩ ⟨rfl, trivial⟩⟩
  obtain ⟨b, hm, hi⟩ := hi
  replace hi := hi.form
  obtain ⟨g, h, rfl⟩ := hi
  refine wC_seq ?_
  refine wC_seq ?_
  refine wC_reg ?_
  refine wS_set rfl rfl rfl (a_move rfl rfl) ?_
  refine wS_set rfl rfl rfl (n_lss (b := 256) rfl rfl ) ?_
  refine wO_nil ?_
  refine wC_cond rfl (fun hc => ?_) (fun hc => ?_)
  · have hb : b < 256 := by simpa using hc
    have hKl := clsK_le S b
    have hol := outR_len S (show b ≤ 256 by omega)
    refine wC_skip ?_
    refine wC_seq ?_
    refine wC_block ?_
    refine wC_seq ?_
    refine wC_reg ?_
    refine wS_set rfl rfl rfl (a_move rfl rfl) ?_
    refine wS_set rfl rfl rfl (a_move rfl rfl) ?_
    refine wS_set rfl rfl rfl (a_move rfl rfl) ?_
    refine wS_set rfl rfl rfl (n_indexAddrP rfl rfl rfl (hT rfl) rfl (hT rfl) rfl (by omega)) ?_
    refine wS_eff rfl rfl (a_storeR (v := (clsK S b).length) (by omega) rfl rfl rfl (hT rfl) rfl rfl) ?_
    refine wO_nil ?_
    refine wC_seq ?_
    refine wC_seq ?_
    refine wC_reg ?_
    refine wS_set rfl rfl rfl (a_assign rfl rfl) ?_
    refine wO_nil ?_
    refine wC_block ?_
    refine wC_loop (fun k ρ => ∃ j, j + k = b ∧ (∀ i, i < j → ¬ keyW S i = keyW S b) ∧ PinSt 43 [(0, .lent 4 (rowS S)), (3, .own 7 1 0 256), (4, natX .i64 (clsK S b).length), (5, natX .i64 b), (6, natX .i64 j)]
      [(7, .row 1 true 1 (rowI ((outR S b).set b (clsK S b).length)))] ρ) (fun k ρ hi => ?_) b
      ⟨0, by omega, fun i hi => absurd hi (Nat.not_lt_zero _), pinned_mk rfl ⟨rfl, rfl, rfl, rfl, rfl, trivial⟩ ⟨rfl, trivial⟩⟩
    obtain ⟨j, hm', hno, hi⟩ := hi
    clear h g
    replace hi := hi.form
    obtain ⟨g, h, rfl⟩ := hi
    have hol' : ((outR S b).set b (clsK S b).length).length = 256 := by rw [List.length_set]; exact hol
    refine wC_seq ?_
    refine wC_seq ?_
    refine wC_reg ?_
    refine wS_set rfl rfl rfl (a_move rfl rfl) ?_
    refine wS_set rfl rfl rfl (a_move rfl rfl) ?_
    refine wS_set rfl rfl rfl (n_lss rfl rfl ) ?_
    refine wO_nil ?_
    refine wC_cond rfl (fun hc => ?_) (fun hc => ?_)
    · have hj : j < b := by simpa using hc
      have hge : ((outR S b).set b (clsK S b).length).getD j 0 = cls S j := by
        rw [List.getD_eq_getElem?_getD, List.getElem?_set_ne (by omega), ← List.getD_eq_getElem?_getD, outR_get S hj]
      refine wC_skip ?_
      refine wC_seq ?_
      refine wC_block ?_
      refine wC_seq ?_
      refine wC_reg ?_
      refine wS_set rfl rfl rfl (a_move rfl rfl) ?_
      refine wS_set rfl rfl rfl (a_move rfl rfl) ?_
      refine wS_set rfl rfl rfl (n_conv rfl (hT rfl) rfl (hT rfl) rfl (by simp only [capN]; omega)) ?_
      refine wS_set rfl rfl rfl (a_move rfl rfl) ?_
      refine wS_set rfl rfl rfl (n_conv rfl (hT rfl) rfl (hT rfl) rfl (by simp only [capN]; omega)) ?_
      refine wS_set rfl rfl rfl (a_call rfl rfl fn27 rfl rfl (ev27L hS (by omega) (by omega) (by omega))) ?_
      refine wO_nil ?_
      refine wC_cond rfl (fun hc => ?_) (fun hc => ?_)
      · have hk : keyW S j = keyW S b := by
          have : eqvW S j b = true := hc
          rw [eqv_key] at this
          simpa using this
        have h1 := cls_old S hj hk
        have h2 := cls_lt S hj hk
        have h3 := clsK_old S hj hk
        refine wC_seq ?_
        refine wC_reg ?_
        refine wS_set rfl rfl rfl (a_move rfl rfl) ?_
        refine wS_set rfl rfl rfl (a_move rfl rfl) ?_
        refine wS_set rfl rfl rfl (a_move rfl rfl) ?_
        refine wS_set rfl rfl rfl (a_move rfl rfl) ?_
        refine wS_set rfl rfl rfl (n_indexAddrP rfl rfl rfl (hT rfl) rfl (hT rfl) rfl (by omega)) ?_
        refine wS_set rfl rfl rfl (a_loadI rfl rfl (by first | omega | (simp only [List.length_set]; omega)) (hT rfl) rfl) ?_
        refine wS_set rfl rfl rfl (n_indexAddrP rfl rfl rfl (hT rfl) rfl (hT rfl) rfl (by omega)) ?_
        refine wS_eff rfl rfl (a_storeR (by first | omega | (simp only [List.length_set]; omega)) rfl rfl rfl (hT rfl) rfl rfl) ?_
        refine wO_nil ?_
        refine wC_exit ?_
        refine wC_seq ?_
        refine wC_reg ?_
        refine wS_set rfl rfl rfl (a_move rfl rfl) ?_
        refine wS_set rfl rfl rfl (a_move rfl rfl) ?_
        refine wS_set rfl rfl rfl (n_indexAddrP rfl rfl rfl (hT rfl) rfl (hT rfl) rfl (by omega)) ?_
        refine wS_set rfl rfl rfl (a_loadI rfl rfl (by first | omega | (simp only [List.length_set]; omega)) (hT rfl) rfl) ?_
        refine wS_set rfl rfl rfl (a_move rfl rfl) ?_
        refine wS_set rfl rfl rfl (n_eql rfl rfl ) ?_
        refine wO_nil ?_
        have hv : ((((outR S b).set b (clsK S b).length).set b (((outR S b).set b (clsK S b).length).getD j 0))).getD b 0 = cls S b := by
          rw [List.getD_eq_getElem?_getD, List.getElem?_set_self (by omega), h1]
          exact hge
        refine wC_cond rfl (fun hc => ?_) (fun hc => ?_)
        · exfalso
          have := of_decide_eq_true hc
          omega
        · refine wC_skip ?_
          refine wC_reg ?_
          refine wS_set rfl rfl rfl (a_move rfl rfl) ?_
          refine wS_set rfl rfl rfl (n_add (b := 1) rfl rfl (by simp only [capN]; omega)) ?_
          refine wS_set rfl rfl rfl (a_assign rfl rfl) ?_
          refine wO_nil ?_
          refine ⟨kb - 1, by omega, b + 1, by omega, pinned_mk rfl ⟨rfl, rfl, congrArg (fun K : List (List Bool) => natX .i64 K.length) h3.symm, rfl, trivial⟩ ⟨?_, trivial⟩⟩
          rw [← outR_set S hb, h1, ← hge]
          show Ob.row 1 true 1 (rowI (((outR S b).set b (clsK S b).length).set b (((outR S b).set b (clsK S b).length).getD j 0))) = _
          rw [List.set_set]
      · have hk : ¬ keyW S j = keyW S b := by
          have : eqvW S j b = false := hc
          rw [eqv_key] at this
          simpa using this
        refine wC_skip ?_
        refine wC_reg ?_
        refine wS_set rfl rfl rfl (a_move rfl rfl) ?_
        refine wS_set rfl rfl rfl (n_add (b := 1) rfl rfl (by simp only [capN]; omega)) ?_
        refine wS_set rfl rfl rfl (a_assign rfl rfl) ?_
        refine wO_nil ?_
        refine ⟨k - 1, by omega, j + 1, by omega, fun i hi => ?_, pinned_mk rfl ⟨rfl, rfl, rfl, rfl, rfl, trivial⟩ ⟨rfl, trivial⟩⟩
        by_cases e : i = j
        · subst e; exact hk
        · exact hno i (by omega)
    · obtain rfl : j = b := by
        have : ¬ j < b := by simpa using hc
        omega
      have h1 := cls_new S hno
      have h3 := clsK_new S hno
      refine wC_exit ?_
      refine wC_seq ?_
      refine wC_reg ?_
      refine wS_set rfl rfl rfl (a_move rfl rfl) ?_
      refine wS_set rfl rfl rfl (a_move rfl rfl) ?_
      refine wS_set rfl rfl rfl (n_indexAddrP rfl rfl rfl (hT rfl) rfl (hT rfl) rfl (by omega)) ?_
      refine wS_set rfl rfl rfl (a_loadI rfl rfl (by first | omega | (simp only [List.length_set]; omega)) (hT rfl) rfl) ?_
      refine wS_set rfl rfl rfl (a_move rfl rfl) ?_
      refine wS_set rfl rfl rfl (n_eql rfl rfl ) ?_
      refine wO_nil ?_
      have hv : ((outR S j).set j (clsK S j).length).getD j 0 = (clsK S j).length := by
        rw [List.getD_eq_getElem?_getD, List.getElem?_set_self (by omega)]; rfl
      refine wC_cond rfl (fun hc => ?_) (fun hc => ?_)
      · refine wC_reg ?_
        refine wS_set rfl rfl rfl (a_move rfl rfl) ?_
        refine wS_set rfl rfl rfl (n_add (b := 1) rfl rfl (by simp only [capN]; omega)) ?_
        refine wS_set rfl rfl rfl (a_assign rfl rfl) ?_
        refine wO_nil ?_
        refine wC_reg ?_
        refine wS_set rfl rfl rfl (a_move rfl rfl) ?_
        refine wS_set rfl rfl rfl (n_add (b := 1) rfl rfl (by simp only [capN]; omega)) ?_
        refine wS_set rfl rfl rfl (a_assign rfl rfl) ?_
        refine wO_nil ?_
        refine ⟨kb - 1, by omega, j + 1, by omega, pinned_mk rfl ⟨rfl, rfl, congrArg (natX .i64) h3.symm, rfl, trivial⟩ ⟨?_, trivial⟩⟩
        rw [← outR_set S hb, h1]
        rfl
      · exfalso
        have := of_decide_eq_false hc
        exact this hv
  · obtain rfl : b = 256 := by
      have : ¬ b < 256 := by simpa using hc
      omega
    refine wC_exit ?_
    refine wC_seq ?_
    refine wC_reg ?_
    refine wS_set rfl rfl rfl (a_move rfl rfl) ?_
    refine wS_set rfl rfl rfl (a_assign rfl rfl) ?_
    refine wO_nil ?_
    refine wC_ret ?_
    exact end_ownE rfl rfl rfl (by rw [List.drop_zero, outR_end]; exact List.take_of_length_le (by rw [rowI_len, clsRow_len]; exact Nat.le_refl _))

end Go.Proofs.Ytgjochaacmkpaaa

namespace Go.Proofs.Ytgjochaacmkpaaa
open Go.Dv

theorem fn8 : tab.fn.getD 8 .none = some Try.f8 := by kernel_rfl

def sAB : ByteArray := ⟨#[97, 98]⟩
def sBC : ByteArray := ⟨#[98, 99]⟩
def exS : List (List Nat) := [ofW sAB sAB.size, ofW sBC sBC.size]
theorem exS_isW : ∀ W ∈ exS, isW W := by
  intro W h
  rcases List.mem_cons.1 h with rfl | h
  · exact ofW_isW _ _
  · rw [List.mem_singleton.1 h]; exact ofW_isW _ _

theorem hasT {W : List Nat} {b : Nat} {p : Bool} (h : has W b = p) (hb : b < 256) (hW : isW W) : FnEv tab ext0 13 [.v (setV W), .v (byteV b)] [] (.ret [boolV p], []) := h ▸ has_ev hb hW

theorem ex1 : lenW (fillW (inR 97 99) 256) 4 = 3 := by decide +kernel
theorem ex2 : has (fillW (inR 97 99) 256) 98 = true := by decide +kernel
theorem ex3 : has (fillW (inR 97 99) 256) 100 = false := by decide +kernel
theorem ex4 : lenW (fillW (inR 99 97) 256) 4 = 0 := by decide +kernel
theorem ex5 : (rowI (clsRow exS 256)).length = 256 := by rw [rowI_len, clsRow_len]
theorem ex6 : (clsRow exS 256).getD 0 0 = 0 := by rw [clsRow_get _ (by omega)]; decide +kernel
theorem ex7 : (clsRow exS 256).getD 97 0 = 1 := by rw [clsRow_get _ (by omega)]; decide +kernel
theorem ex8 : (clsRow exS 256).getD 98 0 = 2 := by rw [clsRow_get _ (by omega)]; decide +kernel
theorem ex9 : (clsRow exS 256).getD 99 0 = 3 := by rw [clsRow_get _ (by omega)]; decide +kernel
theorem ex10 : (clsRow exS 256).getD 100 0 = 0 := by rw [clsRow_get _ (by omega)]; decide +kernel
theorem exGet {i : Nat} (h : i < 256) : (rowI (clsRow exS 256))[i]? = some [natV ((clsRow exS 256).getD i 0)] := rowI_get (by rw [clsRow_len]; exact h)

set_option maxRecDepth 100000 in
theorem ev8 : FnEv tab ext0 8 [] [] (.ret [boolV true], []) := by
  have hA := fillW_isW (inR 97 99) 256 (Nat.le_refl _)
  have hB := fillW_isW (inR 99 97) 256 (Nat.le_refl _)
  refine fn_go _ rfl fn8 rfl rfl rfl ?_
  refine wC_seq ?_
  refine wC_reg ?_
  refine wS_set rfl rfl rfl (a_assign rfl rfl) ?_
  refine wO_nil ?_
  refine wC_seq ?_
  refine wC_reg ?_
  refine wS_set rfl rfl rfl (a_call rfl rfl fn10 rfl rfl (ev10 (lo := 97) (up := 99) (by omega) (by omega))) ?_
  refine wS_set rfl rfl rfl (a_alloc (hT rfl) rfl rfl) ?_
  refine wS_eff rfl rfl (a_storeW (by assumption) rfl rfl rfl rfl (hT rfl) rfl rfl) ?_
  refine wO_nil ?_
  refine wC_seq ?_
  refine wC_reg ?_
  refine wS_set rfl rfl rfl (a_call rfl rfl fn9 rfl rfl (ev9 (by decide))) ?_
  refine wS_set rfl rfl rfl (a_call rfl rfl fn9 rfl rfl (ev9 (by decide))) ?_
  refine wS_set rfl rfl rfl (a_buildSlice (ys := [setV (ofW sAB sAB.size), setV (ofW sBC sBC.size)]) (es := rowS exS) rfl (hT rfl) rfl (hT rfl) rfl rfl rfl rfl rfl) ?_
  refine wS_set rfl rfl rfl (a_call rfl rfl fn16 rfl rfl (ev16L exS_isW (by decide))) ?_
  refine wS_set rfl rfl rfl (a_assign rfl rfl) ?_
  refine wO_nil ?_
  refine wC_seq ?_
  refine wC_reg ?_
  refine wS_set rfl rfl rfl (a_load2 rfl rfl (hT rfl) rfl (by rw [cells_len (by assumption)]; exact Nat.le_refl _) (cells_load (by assumption))) ?_
  refine wS_set rfl rfl rfl (a_call rfl rfl fn24 rfl rfl (ev24 (by assumption))) ?_
  refine wS_set rfl rfl rfl (n_eqlT (b := 3) ex1 rfl rfl) ?_
  refine wS_set rfl rfl rfl (a_move rfl rfl) ?_
  refine wS_set rfl rfl rfl (a_load2 rfl rfl (hT rfl) rfl (by rw [cells_len (by assumption)]; exact Nat.le_refl _) (cells_load (by assumption))) ?_
  refine wS_set rfl rfl rfl (a_call rfl rfl fn13 rfl rfl (hasT (b := 98) ex2 (by omega) hA)) ?_
  refine wS_set rfl rfl rfl (a_pickT rfl rfl) ?_
  refine wS_set rfl rfl rfl (a_move rfl rfl) ?_
  refine wS_set rfl rfl rfl (a_load2 rfl rfl (hT rfl) rfl (by rw [cells_len (by assumption)]; exact Nat.le_refl _) (cells_load (by assumption))) ?_
  refine wS_set rfl rfl rfl (a_call rfl rfl fn13 rfl rfl (hasT (b := 100) ex3 (by omega) hA)) ?_
  refine wS_set rfl rfl rfl (a_un rfl rfl) ?_
  refine wS_set rfl rfl rfl (a_pickT rfl rfl) ?_
  refine wS_set rfl rfl rfl (a_move rfl rfl) ?_
  refine wS_set rfl rfl rfl (a_call rfl rfl fn10 rfl rfl (ev10 (lo := 99) (up := 97) (by omega) (by omega))) ?_
  refine wS_set rfl rfl rfl (a_call rfl rfl fn24 rfl rfl (ev24 (by assumption))) ?_
  refine wS_set rfl rfl rfl (n_eqlT (b := 0) ex4 rfl rfl) ?_
  refine wS_set rfl rfl rfl (a_pickT rfl rfl) ?_
  refine wS_set rfl rfl rfl (a_move rfl rfl) ?_
  refine wS_set rfl rfl rfl (a_move rfl rfl) ?_
  refine wS_set rfl rfl rfl (a_lenV rfl rfl (hT rfl) rfl) ?_
  refine wS_set rfl rfl rfl (n_eqlT (b := 256) ex5 rfl rfl) ?_
  refine wS_set rfl rfl rfl (a_pickT rfl rfl) ?_
  refine wS_set rfl rfl rfl (a_move rfl rfl) ?_
  refine wS_set rfl rfl rfl (a_move rfl rfl) ?_
  refine wS_set rfl rfl rfl (n_indexAddrV (a := 0) (es := rowI (clsRow exS 256)) rfl rfl (hT rfl) rfl (hT rfl) rfl (exGet (by omega))) ?_
  refine wS_set rfl rfl rfl (a_loadR1 rfl (hT rfl) rfl rfl) ?_
  refine wS_set rfl rfl rfl (n_eqlT (b := 0) ex6 rfl rfl) ?_
  refine wS_set rfl rfl rfl (a_pickT rfl rfl) ?_
  refine wS_set rfl rfl rfl (a_move rfl rfl) ?_
  refine wS_set rfl rfl rfl (a_move rfl rfl) ?_
  refine wS_set rfl rfl rfl (n_indexAddrV (a := 97) (es := rowI (clsRow exS 256)) rfl rfl (hT rfl) rfl (hT rfl) rfl (exGet (by omega))) ?_
  refine wS_set rfl rfl rfl (a_loadR1 rfl (hT rfl) rfl rfl) ?_
  refine wS_set rfl rfl rfl (n_eqlT (b := 1) ex7 rfl rfl) ?_
  refine wS_set rfl rfl rfl (a_pickT rfl rfl) ?_
  refine wS_set rfl rfl rfl (a_move rfl rfl) ?_
  refine wS_set rfl rfl rfl (a_move rfl rfl) ?_
  refine wS_set rfl rfl rfl (n_indexAddrV (a := 98) (es := rowI (clsRow exS 256)) rfl rfl (hT rfl) rfl (hT rfl) rfl (exGet (by omega))) ?_
  refine wS_set rfl rfl rfl (a_loadR1 rfl (hT rfl) rfl rfl) ?_
  refine wS_set rfl rfl rfl (n_eqlT (b := 2) ex8 rfl rfl) ?_
  refine wS_set rfl rfl rfl (a_pickT rfl rfl) ?_
  refine wS_set rfl rfl rfl (a_move rfl rfl) ?_
  refine wS_set rfl rfl rfl (a_move rfl rfl) ?_
  refine wS_set rfl rfl rfl (n_indexAddrV (a := 99) (es := rowI (clsRow exS 256)) rfl rfl (hT rfl) rfl (hT rfl) rfl (exGet (by omega))) ?_
  refine wS_set rfl rfl rfl (a_loadR1 rfl (hT rfl) rfl rfl) ?_
  refine wS_set rfl rfl rfl (n_eqlT (b := 3) ex9 rfl rfl) ?_
  refine wS_set rfl rfl rfl (a_pickT rfl rfl) ?_
  refine wS_set rfl rfl rfl (a_move rfl rfl) ?_
  refine wS_set rfl rfl rfl (a_move rfl rfl) ?_
  refine wS_set rfl rfl rfl (n_indexAddrV (a := 100) (es := rowI (clsRow exS 256)) rfl rfl (hT rfl) rfl (hT rfl) rfl (exGet (by omega))) ?_
  refine wS_set rfl rfl rfl (a_loadR1 rfl (hT rfl) rfl rfl) ?_
  refine wS_set rfl rfl rfl (n_eqlT (b := 0) ex10 rfl rfl) ?_
  refine wS_set rfl rfl rfl (a_pickT rfl rfl) ?_
  refine wS_set rfl rfl rfl (a_assign rfl rfl) ?_
  refine wO_nil ?_
  refine wC_ret ?_
  exact end_tmp rfl rfl

end Go.Proofs.Ytgjochaacmkpaaa

namespace Go.Proofs.Ytgjochaacmkpaaa
open Go.Dv

theorem word_cnt {W : List Nat} (hW : isW W) {j : Nat} (hj : j < 4) : swar (W.getD j 0) = cntB (fun i => has W (64 * j + i)) 64 := by
  rw [swar_sum (hW.2 j), ← cnt_sum]
  refine cntB_congr fun i hi => ?_
  rw [has_bit, show (64 * j + i) / 64 = j by omega, show (64 * j + i) % 64 = i by omega]
theorem len_cnt {W : List Nat} (hW : isW W) : lenW W 4 = cntB (has W) 256 := by
  have h0 := word_cnt hW (j := 0) (by omega)
  have h1 := word_cnt hW (j := 1) (by omega)
  have h2 := word_cnt hW (j := 2) (by omega)
  have h3 := word_cnt hW (j := 3) (by omega)
  have a1 : cntB (has W) 256 = cntB (has W) 192 + cntB (fun i => has W (192 + i)) 64 := cntB_add (has W) 192 64
  have a2 : cntB (has W) 192 = cntB (has W) 128 + cntB (fun i => has W (128 + i)) 64 := cntB_add (has W) 128 64
  have a3 : cntB (has W) 128 = cntB (has W) 64 + cntB (fun i => has W (64 + i)) 64 := cntB_add (has W) 64 64
  have a4 : cntB (fun i => has W (64 * 0 + i)) 64 = cntB (has W) 64 := cntB_congr fun i _ => by rw [Nat.mul_zero, Nat.zero_add]
  have b1 : cntB (fun i => has W (64 * 1 + i)) 64 = cntB (fun i => has W (64 + i)) 64 := rfl
  have b2 : cntB (fun i => has W (64 * 2 + i)) 64 = cntB (fun i => has W (128 + i)) 64 := rfl
  have b3 : cntB (fun i => has W (64 * 3 + i)) 64 = cntB (fun i => has W (192 + i)) 64 := rfl
  have e : lenW W 4 = 0 + swar (W.getD 0 0) + swar (W.getD 1 0) + swar (W.getD 2 0) + swar (W.getD 3 0) := rfl
  omega
theorem list_cnt (W : List Nat) : ∀ n, (listW W n).length = cntB (has W) n
  | 0 => rfl
  | n + 1 => by
    have ih := list_cnt W n
    simp only [listW] at ih
    simp only [listW, List.range_succ, List.filter_append, List.length_append, cntB, ih]
    cases h : has W n <;> simp [h]
theorem len_law {W : List Nat} (hW : isW W) : lenW W 4 = (listW W 256).length := by rw [len_cnt hW, list_cnt]
theorem cntB_le (p : Nat → Bool) : ∀ n, cntB p n ≤ n
  | 0 => Nat.le_refl _
  | n + 1 => by
    have := cntB_le p n
    simp only [cntB]; split <;> omega
theorem cntB_not (p : Nat → Bool) : ∀ n, cntB (fun i => !p i) n + cntB p n = n
  | 0 => rfl
  | n + 1 => by
    have := cntB_not p n
    simp only [cntB]
    by_cases h : p n = true <;> simp [h] <;> omega
theorem cntB_ie (p q : Nat → Bool) : ∀ n, cntB p n + cntB q n = cntB (fun i => p i || q i) n + cntB (fun i => p i && q i) n
  | 0 => rfl
  | n + 1 => by
    have := cntB_ie p q n
    simp only [cntB]
    by_cases h : p n = true <;> by_cases h' : q n = true <;> simp [h, h'] <;> omega
theorem cntB_zero {p : Nat → Bool} : ∀ {n : Nat}, (∀ i, i < n → p i = false) → cntB p n = 0
  | 0, _ => rfl
  | n + 1, h => by
    simp only [cntB]
    rw [cntB_zero fun i hi => h i (by omega), h n (by omega)]; rfl

theorem or_isW {A B : List Nat} (hA : isW A) (hB : isW B) : isW (orW A B 4) := by rw [union_law hA hB]; exact fillW_isW _ _ (Nat.le_refl _)
theorem and_isW {A B : List Nat} (hA : isW A) (hB : isW B) : isW (andW A B 4) := by rw [inter_law hA hB]; exact fillW_isW _ _ (Nat.le_refl _)
theorem not_isW {A : List Nat} (hA : isW A) : isW (notW A 4) := by rw [compl_law hA]; exact fillW_isW _ _ (Nat.le_refl _)

theorem not_not {A : List Nat} (hA : isW A) : notW (notW A 4) 4 = A :=
  set_ext (not_isW (not_isW hA)) hA fun b hb => by rw [has_not (not_isW hA) hb, has_not hA hb, Bool.not_not]
theorem len_not {A : List Nat} (hA : isW A) : lenW (notW A 4) 4 = 256 - lenW A 4 := by
  rw [len_cnt (not_isW hA), len_cnt hA]
  have h1 := cntB_not (has A) 256
  have h2 : cntB (has (notW A 4)) 256 = cntB (fun i => !has A i) 256 := cntB_congr fun i hi => has_not hA hi
  omega
theorem len_le {A : List Nat} (hA : isW A) : lenW A 4 ≤ 256 := by rw [len_cnt hA]; exact cntB_le _ _
theorem or_not {A : List Nat} (hA : isW A) : orW A (notW A 4) 4 = fillW (inR 0 255) 256 :=
  set_ext (or_isW hA (not_isW hA)) (fillW_isW _ _ (Nat.le_refl _)) fun b hb => by
    rw [has_or hb, has_not hA hb, has_fill _ _ (Nat.le_refl _) _ hb]
    have h1 : b ≤ 255 := by omega
    simp [hb, inR, h1]
theorem and_not {A : List Nat} (hA : isW A) : lenW (andW A (notW A 4) 4) 4 = 0 := by
  rw [len_cnt (and_isW hA (not_isW hA))]
  refine cntB_zero fun i hi => ?_
  rw [has_and hi, has_not hA hi, Bool.and_not_self]
theorem demorgan {A B : List Nat} (hA : isW A) (hB : isW B) : notW (orW A B 4) 4 = andW (notW A 4) (notW B 4) 4 :=
  set_ext (not_isW (or_isW hA hB)) (and_isW (not_isW hA) (not_isW hB)) fun b hb => by
    rw [has_not (or_isW hA hB) hb, has_or hb, has_and hb, has_not hA hb, has_not hB hb, Bool.not_or]
theorem distr {A B C : List Nat} (hA : isW A) (hB : isW B) (hC : isW C) : andW A (orW B C 4) 4 = orW (andW A B 4) (andW A C 4) 4 :=
  set_ext (and_isW hA (or_isW hB hC)) (or_isW (and_isW hA hB) (and_isW hA hC)) fun b hb => by
    rw [has_and hb, has_or hb, has_or hb, has_and hb, has_and hb, Bool.and_or_distrib_left]
theorem incl_excl {A B : List Nat} (hA : isW A) (hB : isW B) : lenW A 4 + lenW B 4 = lenW (orW A B 4) 4 + lenW (andW A B 4) 4 := by
  rw [len_cnt hA, len_cnt hB, len_cnt (or_isW hA hB), len_cnt (and_isW hA hB), cntB_ie]
  have h1 : cntB (has (orW A B 4)) 256 = cntB (fun i => has A i || has B i) 256 := cntB_congr fun i hi => has_or hi
  have h2 : cntB (has (andW A B 4)) 256 = cntB (fun i => has A i && has B i) 256 := cntB_congr fun i hi => has_and hi
  rw [h1, h2]
theorem has_range {lo up : Nat} (hu : up < 256) : has (fillW (inR lo up) 256) up = decide (lo ≤ up) := by
  rw [has_fill _ _ (Nat.le_refl _) _ hu]
  simp [hu, inR]

/-! ### sets compared -/
section
variable {ext : Ext} {n0 : Nat} {sl : Nat → X} {ob : Nat → Ob} {d : Option Tmp} {ty : TypeId} {pos : String} {af : Array Edge} {gd : Option (Nat × Bool)} {yt : TypeId} {x y : Operand}
theorem kinds {W : List Nat} (hW : isW W) : (W.map word).map litK = [1, 1, 1, 1] := by
  obtain ⟨h, _⟩ := hW
  match W, h with
  | [a, b, c, d], _ => rfl
theorem kinds0 {W : List Nat} : ∀ v ∈ W.map word, litK v ≠ 0 := by
  intro v h
  obtain ⟨n, _, rfl⟩ := List.mem_map.1 h
  exact Nat.one_ne_zero
theorem a_eqW {A B : List Nat} (h : A = B) (hA : isW A) (hx : (St.opd ⟨n0, sl, ob⟩) x = .v (setV A)) (hy : (St.opd ⟨n0, sl, ob⟩) y = .v (setV B)) :
    ActEv tab ext ⟨d, .binOp .eql 25 x y yt, ty, pos, af, gd⟩ ⟨n0, sl, ob⟩ (.v (.lit (.bool true))) ob [] [] :=
  a_eqAggT (congrArg (List.map word) h) hx hy (by rw [kinds hA]; rfl) kinds0
theorem a_neW {A B : List Nat} (h : A = B) (hA : isW A) (hx : (St.opd ⟨n0, sl, ob⟩) x = .v (setV A)) (hy : (St.opd ⟨n0, sl, ob⟩) y = .v (setV B)) :
    ActEv tab ext ⟨d, .binOp .neq 25 x y yt, ty, pos, af, gd⟩ ⟨n0, sl, ob⟩ (.v (.lit (.bool false))) ob [] [] :=
  a_neAggF (congrArg (List.map word) h) hx hy (by rw [kinds hA]; rfl) kinds0
theorem a_boxW {s : Tmp} {t : TypeId} {T : TI} {W : List Nat} (hW : isW W) (hx : (St.opd ⟨n0, sl, ob⟩) x = .v (setV W)) (ht : tab.ti t = T) (hk : T.kd = 2) (hl : T.size = 4) (hn : Nat.ble (s + 1) n0 = true) :
    ActEv tab ext ⟨some s, .box t x, ty, pos, af, gd⟩ ⟨n0, sl, ob⟩ (.addr s ((ob s).gen + 1) 0) (upd ob s (.box ((ob s).gen + 1) (cells W))) [s] [s] :=
  a_box2 hx ht hk (by rw [hl, List.length_map, hW.1]) hn
end
end Go.Proofs.Ytgjochaacmkpaaa

namespace Go.Proofs.Ytgjochaacmkpaaa
open Go.Dv

theorem fn3 : tab.fn.getD 3 .none = some Try.f3 := by kernel_rfl
theorem fn4 : tab.fn.getD 4 .none = some Try.f4 := by kernel_rfl
theorem fn5 : tab.fn.getD 5 .none = some Try.f5 := by kernel_rfl
theorem fn6 : tab.fn.getD 6 .none = some Try.f6 := by kernel_rfl
theorem fn7 : tab.fn.getD 7 .none = some Try.f7 := by kernel_rfl
theorem eqlB {p q : Bool} (h : p = q) : boolOp .eql p q = some (.bool true) := by subst h; cases p <;> rfl

theorem ev15T {l : List Nat} (h : l.length < 2 ^ 62) : FnEv tab ext0 15 [.v (.sl 1 (rowI l)), .v (.sl 1 (rowI l))] [] (.ret [boolV true], []) := by
  have := ev15 h h
  rwa [decide_eq_true rfl] at this

set_option maxRecDepth 100000 in
theorem ev3 {s : ByteArray} {lo up : Nat} (hlo : lo < 256) (hup : up < 256) : FnEv tab ext0 3 [.v (.lit (.string s)), .v (byteV lo), .v (byteV up)] [] (.ret [boolV true], []) := by
  have hA := ofW_isW s s.size
  have hB := fillW_isW (inR lo up) 256 (Nat.le_refl _)
  refine fn_go _ rfl fn3 rfl rfl rfl ?_
  refine wC_seq ?_
  refine wC_reg ?_
  refine wS_set rfl rfl rfl (a_assign rfl rfl) ?_
  refine wO_nil ?_
  refine wC_seq ?_
  refine wC_seq ?_
  refine wC_reg ?_
  refine wS_set rfl rfl rfl (a_move rfl rfl) ?_
  refine wS_set rfl rfl rfl (a_lenStr rfl rfl (hT rfl) rfl) ?_
  refine wS_set rfl rfl rfl (n_gtr (b := 600) rfl rfl ) ?_
  refine wO_nil ?_
  refine wC_cond rfl (fun hc => ?_) (fun hc => ?_)
  · refine wC_seq ?_
    refine wC_reg ?_
    refine wS_set rfl rfl rfl (a_call rfl rfl fn8 rfl rfl (ev8)) ?_
    refine wS_set rfl rfl rfl (a_assign rfl rfl) ?_
    refine wO_nil ?_
    refine wC_ret ?_
    exact end_tmp rfl rfl
  · have hs : ¬ s.size > 600 := of_decide_eq_false hc
    refine wC_skip ?_
    refine wC_seq ?_
    refine wC_reg ?_
    refine wS_set rfl rfl rfl (a_move rfl rfl) ?_
    refine wS_set rfl rfl rfl (a_call rfl rfl fn9 rfl rfl (ev9 (by omega))) ?_
    refine wS_set rfl rfl rfl (a_move rfl rfl) ?_
    refine wS_set rfl rfl rfl (a_move rfl rfl) ?_
    refine wS_set rfl rfl rfl (a_call rfl rfl fn10 rfl rfl (ev10 hlo hup)) ?_
    refine wS_set rfl rfl rfl (a_alloc (hT rfl) rfl rfl) ?_
    refine wS_set rfl rfl rfl (a_alloc (hT rfl) rfl rfl) ?_
    refine wS_eff rfl rfl (a_storeW (by assumption) rfl rfl rfl rfl (hT rfl) rfl rfl) ?_
    refine wS_eff rfl rfl (a_storeW (by assumption) rfl rfl rfl rfl (hT rfl) rfl rfl) ?_
    refine wO_nil ?_
    refine wC_seq ?_
    refine wC_regD (by kernel_rfl) ?_
    refine wS_set rfl rfl rfl (a_call rfl rfl fn8 rfl rfl (ev8)) ?_
    refine wS_set rfl rfl rfl (a_move rfl rfl) ?_
    refine wS_set rfl rfl rfl (a_load2 rfl rfl (hT rfl) rfl (by rw [cells_len (by assumption)]; exact Nat.le_refl _) (cells_load (by assumption))) ?_
    refine wS_set rfl rfl rfl (a_move rfl rfl) ?_
    refine wS_set rfl rfl rfl (a_call rfl rfl fn11 rfl rfl (ev11 (by omega))) ?_
    refine wS_set rfl rfl rfl (a_eqW rfl hA rfl rfl) ?_
    refine wS_set rfl rfl rfl (a_pickT rfl rfl) ?_
    refine wS_set rfl rfl rfl (a_move rfl rfl) ?_
    refine wS_set rfl rfl rfl (a_load2 rfl rfl (hT rfl) rfl (by rw [cells_len (by assumption)]; exact Nat.le_refl _) (cells_load (by assumption))) ?_
    refine wS_set rfl rfl rfl (a_move rfl rfl) ?_
    refine wS_set rfl rfl rfl (a_move rfl rfl) ?_
    refine wS_set rfl rfl rfl (a_call rfl rfl fn12 rfl rfl (ev12 hlo hup)) ?_
    refine wS_set rfl rfl rfl (a_eqW rfl hB rfl rfl) ?_
    refine wS_set rfl rfl rfl (a_pickT rfl rfl) ?_
    refine wS_set rfl rfl rfl (a_move rfl rfl) ?_
    refine wS_set rfl rfl rfl (a_load2 rfl rfl (hT rfl) rfl (by rw [cells_len (by assumption)]; exact Nat.le_refl _) (cells_load (by assumption))) ?_
    refine wS_set rfl rfl rfl (a_move rfl rfl) ?_
    refine wS_set rfl rfl rfl (a_call rfl rfl fn13 rfl rfl (has_ev (by omega) (by assumption))) ?_
    refine wS_set rfl rfl rfl (a_load2 rfl rfl (hT rfl) rfl (by rw [cells_len (by assumption)]; exact Nat.le_refl _) (cells_load (by assumption))) ?_
    refine wS_set rfl rfl rfl (a_move rfl rfl) ?_
    refine wS_set rfl rfl rfl (a_call rfl rfl fn14 rfl rfl (ev14 (by omega) (by assumption))) ?_
    refine wS_set rfl rfl rfl (a_binBT (eqlB rfl) rfl rfl (hT rfl) rfl) ?_
    refine wS_set rfl rfl rfl (a_pickT rfl rfl) ?_
    refine wS_set rfl rfl rfl (a_move rfl rfl) ?_
    refine wS_set rfl rfl rfl (a_load2 rfl rfl (hT rfl) rfl (by rw [cells_len (by assumption)]; exact Nat.le_refl _) (cells_load (by assumption))) ?_
    refine wS_set rfl rfl rfl (a_move rfl rfl) ?_
    refine wS_set rfl rfl rfl (a_call rfl rfl fn13 rfl rfl (hasT (has_range hup) hup hB)) ?_
    refine wS_set rfl rfl rfl (a_move rfl rfl) ?_
    refine wS_set rfl rfl rfl (a_move rfl rfl) ?_
    refine wS_set rfl rfl rfl (n_leq rfl rfl ) ?_
    refine wS_set rfl rfl rfl (a_binBT (eqlB rfl) rfl rfl (hT rfl) rfl) ?_
    refine wS_set rfl rfl rfl (a_pickT rfl rfl) ?_
    refine wS_set rfl rfl rfl (a_assign rfl rfl) ?_
    refine wO_nil ⟨rfl, by kernel_rfl, ?_⟩
    refine wC_ret ?_
    exact end_tmp rfl rfl

set_option maxRecDepth 100000 in
theorem ev6 {A B : List Nat} (hA : isW A) (hB : isW B) : FnEv tab ext0 6 [.v (setV A), .v (setV B)] [] (.ret [boolV true], []) := by
  have h1 := or_isW hA hB
  have h2 := and_isW hA hB
  have h3 := not_isW hA
  refine fn_go _ rfl fn6 rfl rfl rfl ?_
  refine wC_seq ?_
  refine wC_reg ?_
  refine wS_set rfl rfl rfl (a_boxW hA rfl (hT rfl) rfl rfl rfl) ?_
  refine wS_set rfl rfl rfl (a_boxW hB rfl (hT rfl) rfl rfl rfl) ?_
  refine wS_set rfl rfl rfl (a_assign rfl rfl) ?_
  refine wO_nil ?_
  refine wC_seq ?_
  refine wC_regD (by kernel_rfl) ?_
  refine wS_set rfl rfl rfl (a_call rfl rfl fn8 rfl rfl (ev8)) ?_
  refine wS_set rfl rfl rfl (a_move rfl rfl) ?_
  refine wS_set rfl rfl rfl (a_load2 rfl rfl (hT rfl) rfl (by rw [cells_len (by assumption)]; exact Nat.le_refl _) (cells_load (by assumption))) ?_
  refine wS_set rfl rfl rfl (a_load2 rfl rfl (hT rfl) rfl (by rw [cells_len (by assumption)]; exact Nat.le_refl _) (cells_load (by assumption))) ?_
  refine wS_set rfl rfl rfl (a_call rfl rfl fn18 rfl rfl (union_ev hA hB)) ?_
  refine wS_set rfl rfl rfl (a_load2 rfl rfl (hT rfl) rfl (by rw [cells_len (by assumption)]; exact Nat.le_refl _) (cells_load (by assumption))) ?_
  refine wS_set rfl rfl rfl (a_load2 rfl rfl (hT rfl) rfl (by rw [cells_len (by assumption)]; exact Nat.le_refl _) (cells_load (by assumption))) ?_
  refine wS_set rfl rfl rfl (a_call rfl rfl fn19 rfl rfl (ev19 hA hB)) ?_
  refine wS_set rfl rfl rfl (a_eqW (union_law hA hB) h1 rfl rfl) ?_
  refine wS_set rfl rfl rfl (a_pickT rfl rfl) ?_
  refine wS_set rfl rfl rfl (a_move rfl rfl) ?_
  refine wS_set rfl rfl rfl (a_load2 rfl rfl (hT rfl) rfl (by rw [cells_len (by assumption)]; exact Nat.le_refl _) (cells_load (by assumption))) ?_
  refine wS_set rfl rfl rfl (a_load2 rfl rfl (hT rfl) rfl (by rw [cells_len (by assumption)]; exact Nat.le_refl _) (cells_load (by assumption))) ?_
  refine wS_set rfl rfl rfl (a_call rfl rfl fn20 rfl rfl (inter_ev hA hB)) ?_
  refine wS_set rfl rfl rfl (a_load2 rfl rfl (hT rfl) rfl (by rw [cells_len (by assumption)]; exact Nat.le_refl _) (cells_load (by assumption))) ?_
  refine wS_set rfl rfl rfl (a_load2 rfl rfl (hT rfl) rfl (by rw [cells_len (by assumption)]; exact Nat.le_refl _) (cells_load (by assumption))) ?_
  refine wS_set rfl rfl rfl (a_call rfl rfl fn21 rfl rfl (ev21 hA hB)) ?_
  refine wS_set rfl rfl rfl (a_eqW (inter_law hA hB) h2 rfl rfl) ?_
  refine wS_set rfl rfl rfl (a_pickT rfl rfl) ?_
  refine wS_set rfl rfl rfl (a_move rfl rfl) ?_
  refine wS_set rfl rfl rfl (a_load2 rfl rfl (hT rfl) rfl (by rw [cells_len (by assumption)]; exact Nat.le_refl _) (cells_load (by assumption))) ?_
  refine wS_set rfl rfl rfl (a_call rfl rfl fn22 rfl rfl (compl_ev hA)) ?_
  refine wS_set rfl rfl rfl (a_load2 rfl rfl (hT rfl) rfl (by rw [cells_len (by assumption)]; exact Nat.le_refl _) (cells_load (by assumption))) ?_
  refine wS_set rfl rfl rfl (a_call rfl rfl fn23 rfl rfl (ev23 hA)) ?_
  refine wS_set rfl rfl rfl (a_eqW (compl_law hA) h3 rfl rfl) ?_
  refine wS_set rfl rfl rfl (a_pickT rfl rfl) ?_
  refine wS_set rfl rfl rfl (a_move rfl rfl) ?_
  refine wS_set rfl rfl rfl (a_load2 rfl rfl (hT rfl) rfl (by rw [cells_len (by assumption)]; exact Nat.le_refl _) (cells_load (by assumption))) ?_
  refine wS_set rfl rfl rfl (a_call rfl rfl fn24 rfl rfl (ev24 hA)) ?_
  refine wS_set rfl rfl rfl (a_load2 rfl rfl (hT rfl) rfl (by rw [cells_len (by assumption)]; exact Nat.le_refl _) (cells_load (by assumption))) ?_
  refine wS_set rfl rfl rfl (a_call rfl rfl fn25 rfl rfl (ev25 hA)) ?_
  refine wS_set rfl rfl rfl (n_eqlT (len_law hA) rfl rfl) ?_
  refine wS_set rfl rfl rfl (a_pickT rfl rfl) ?_
  refine wS_set rfl rfl rfl (a_assign rfl rfl) ?_
  refine wO_nil ⟨rfl, by kernel_rfl, ?_⟩
  refine wC_ret ?_
  exact end_tmp rfl rfl

set_option maxRecDepth 100000 in
theorem ev7 {A B C : List Nat} (hA : isW A) (hB : isW B) (hC : isW C) : FnEv tab ext0 7 [.v (setV A), .v (setV B), .v (setV C)] [] (.ret [boolV true], []) := by
  have h1 := or_isW hA hB
  have h2 := and_isW hA hB
  have h3 := not_isW hA
  have h4 := not_isW hB
  have h5 := or_isW hB hC
  have h6 := and_isW hA hC
  have h7 := not_isW h3
  have h8 := or_isW hA h3
  have h9 := and_isW hA h3
  have l1 := len_le hA
  have l2 := len_le hB
  have l3 := len_le h1
  have l4 := len_le h2
  refine fn_go _ rfl fn7 rfl rfl rfl ?_
  refine wC_seq ?_
  refine wC_reg ?_
  refine wS_set rfl rfl rfl (a_boxW hA rfl (hT rfl) rfl rfl rfl) ?_
  refine wS_set rfl rfl rfl (a_boxW hB rfl (hT rfl) rfl rfl rfl) ?_
  refine wS_set rfl rfl rfl (a_boxW hC rfl (hT rfl) rfl rfl rfl) ?_
  refine wS_set rfl rfl rfl (a_assign rfl rfl) ?_
  refine wO_nil ?_
  refine wC_seq ?_
  refine wC_reg ?_
  refine wS_set rfl rfl rfl (a_load2 rfl rfl (hT rfl) rfl (by rw [cells_len (by assumption)]; exact Nat.le_refl _) (cells_load (by assumption))) ?_
  refine wS_set rfl rfl rfl (a_call rfl rfl fn22 rfl rfl (compl_ev (by assumption))) ?_
  refine wS_set rfl rfl rfl (a_alloc (hT rfl) rfl rfl) ?_
  refine wS_eff rfl rfl (a_storeW (by assumption) rfl rfl rfl rfl (hT rfl) rfl rfl) ?_
  refine wO_nil ?_
  refine wC_seq ?_
  refine wC_seq ?_
  refine wC_regD (by kernel_rfl) ?_
  refine wS_set rfl rfl rfl (a_load2 rfl rfl (hT rfl) rfl (by rw [cells_len (by assumption)]; exact Nat.le_refl _) (cells_load (by assumption))) ?_
  refine wS_set rfl rfl rfl (a_call rfl rfl fn22 rfl rfl (compl_ev (by assumption))) ?_
  refine wS_set rfl rfl rfl (a_load2 rfl rfl (hT rfl) rfl (by rw [cells_len (by assumption)]; exact Nat.le_refl _) (cells_load (by assumption))) ?_
  refine wS_set rfl rfl rfl (a_neW (not_not hA) h7 rfl rfl) ?_
  refine wS_set rfl rfl rfl (a_move rfl rfl) ?_
  refine wS_set rfl rfl rfl (a_load2 rfl rfl (hT rfl) rfl (by rw [cells_len (by assumption)]; exact Nat.le_refl _) (cells_load (by assumption))) ?_
  refine wS_set rfl rfl rfl (a_call rfl rfl fn24 rfl rfl (ev24 (by assumption))) ?_
  refine wS_set rfl rfl rfl (a_load2 rfl rfl (hT rfl) rfl (by rw [cells_len (by assumption)]; exact Nat.le_refl _) (cells_load (by assumption))) ?_
  refine wS_set rfl rfl rfl (a_call rfl rfl fn24 rfl rfl (ev24 (by assumption))) ?_
  refine wS_set rfl rfl rfl (n_sub (a := 256) rfl rfl (by omega) (by simp only [capN]; omega)) ?_
  refine wS_set rfl rfl rfl (n_neqF (fun e => e (len_not hA)) rfl rfl) ?_
  refine wS_set rfl rfl rfl (a_pickF rfl rfl) ?_
  refine wS_set rfl rfl rfl (a_move rfl rfl) ?_
  refine wS_set rfl rfl rfl (a_load2 rfl rfl (hT rfl) rfl (by rw [cells_len (by assumption)]; exact Nat.le_refl _) (cells_load (by assumption))) ?_
  refine wS_set rfl rfl rfl (a_load2 rfl rfl (hT rfl) rfl (by rw [cells_len (by assumption)]; exact Nat.le_refl _) (cells_load (by assumption))) ?_
  refine wS_set rfl rfl rfl (a_call rfl rfl fn18 rfl rfl (union_ev (by assumption) (by assumption))) ?_
  refine wS_set rfl rfl rfl (a_call rfl rfl fn10 rfl rfl (ev10 (lo := 0) (up := 255) (by omega) (by omega))) ?_
  refine wS_set rfl rfl rfl (a_neW (or_not hA) h8 rfl rfl) ?_
  refine wS_set rfl rfl rfl (a_pickF rfl rfl) ?_
  refine wS_set rfl rfl rfl (a_move rfl rfl) ?_
  refine wS_set rfl rfl rfl (a_load2 rfl rfl (hT rfl) rfl (by rw [cells_len (by assumption)]; exact Nat.le_refl _) (cells_load (by assumption))) ?_
  refine wS_set rfl rfl rfl (a_load2 rfl rfl (hT rfl) rfl (by rw [cells_len (by assumption)]; exact Nat.le_refl _) (cells_load (by assumption))) ?_
  refine wS_set rfl rfl rfl (a_call rfl rfl fn20 rfl rfl (inter_ev (by assumption) (by assumption))) ?_
  refine wS_set rfl rfl rfl (a_call rfl rfl fn24 rfl rfl (ev24 (by assumption))) ?_
  refine wS_set rfl rfl rfl (n_neqF (b := 0) (fun e => e (and_not hA)) rfl rfl) ?_
  refine wS_set rfl rfl rfl (a_pickF rfl rfl) ?_
  refine wO_nil ⟨rfl, by kernel_rfl, ?_⟩
  refine wC_cond (p := false) rfl (fun hc => absurd hc (by decide)) (fun _ => ?_)
  refine wC_skip ?_
  refine wC_seq ?_
  refine wC_regD (by kernel_rfl) ?_
  refine wS_set rfl rfl rfl (a_load2 rfl rfl (hT rfl) rfl (by rw [cells_len (by assumption)]; exact Nat.le_refl _) (cells_load (by assumption))) ?_
  refine wS_set rfl rfl rfl (a_load2 rfl rfl (hT rfl) rfl (by rw [cells_len (by assumption)]; exact Nat.le_refl _) (cells_load (by assumption))) ?_
  refine wS_set rfl rfl rfl (a_call rfl rfl fn18 rfl rfl (union_ev (by assumption) (by assumption))) ?_
  refine wS_set rfl rfl rfl (a_call rfl rfl fn22 rfl rfl (compl_ev (by assumption))) ?_
  refine wS_set rfl rfl rfl (a_load2 rfl rfl (hT rfl) rfl (by rw [cells_len (by assumption)]; exact Nat.le_refl _) (cells_load (by assumption))) ?_
  refine wS_set rfl rfl rfl (a_load2 rfl rfl (hT rfl) rfl (by rw [cells_len (by assumption)]; exact Nat.le_refl _) (cells_load (by assumption))) ?_
  refine wS_set rfl rfl rfl (a_call rfl rfl fn22 rfl rfl (compl_ev (by assumption))) ?_
  refine wS_set rfl rfl rfl (a_call rfl rfl fn20 rfl rfl (inter_ev (by assumption) (by assumption))) ?_
  refine wS_set rfl rfl rfl (a_eqW (demorgan hA hB) (not_isW h1) rfl rfl) ?_
  refine wS_set rfl rfl rfl (a_assign rfl rfl) ?_
  refine wO_nil ⟨rfl, by kernel_rfl, ?_⟩
  refine wC_seq ?_
  refine wC_regD (by kernel_rfl) ?_
  refine wS_set rfl rfl rfl (a_load2 rfl rfl (hT rfl) rfl (by rw [cells_len (by assumption)]; exact Nat.le_refl _) (cells_load (by assumption))) ?_
  refine wS_set rfl rfl rfl (a_load2 rfl rfl (hT rfl) rfl (by rw [cells_len (by assumption)]; exact Nat.le_refl _) (cells_load (by assumption))) ?_
  refine wS_set rfl rfl rfl (a_load2 rfl rfl (hT rfl) rfl (by rw [cells_len (by assumption)]; exact Nat.le_refl _) (cells_load (by assumption))) ?_
  refine wS_set rfl rfl rfl (a_call rfl rfl fn18 rfl rfl (union_ev (by assumption) (by assumption))) ?_
  refine wS_set rfl rfl rfl (a_call rfl rfl fn20 rfl rfl (inter_ev (by assumption) (by assumption))) ?_
  refine wS_set rfl rfl rfl (a_load2 rfl rfl (hT rfl) rfl (by rw [cells_len (by assumption)]; exact Nat.le_refl _) (cells_load (by assumption))) ?_
  refine wS_set rfl rfl rfl (a_load2 rfl rfl (hT rfl) rfl (by rw [cells_len (by assumption)]; exact Nat.le_refl _) (cells_load (by assumption))) ?_
  refine wS_set rfl rfl rfl (a_call rfl rfl fn20 rfl rfl (inter_ev (by assumption) (by assumption))) ?_
  refine wS_set rfl rfl rfl (a_load2 rfl rfl (hT rfl) rfl (by rw [cells_len (by assumption)]; exact Nat.le_refl _) (cells_load (by assumption))) ?_
  refine wS_set rfl rfl rfl (a_load2 rfl rfl (hT rfl) rfl (by rw [cells_len (by assumption)]; exact Nat.le_refl _) (cells_load (by assumption))) ?_
  refine wS_set rfl rfl rfl (a_call rfl rfl fn20 rfl rfl (inter_ev (by assumption) (by assumption))) ?_
  refine wS_set rfl rfl rfl (a_call rfl rfl fn18 rfl rfl (union_ev (by assumption) (by assumption))) ?_
  refine wS_set rfl rfl rfl (a_eqW (distr hA hB hC) (and_isW hA h5) rfl rfl) ?_
  refine wS_set rfl rfl rfl (a_assign rfl rfl) ?_
  refine wO_nil ⟨rfl, by kernel_rfl, ?_⟩
  refine wC_seq ?_
  refine wC_regD (by kernel_rfl) ?_
  refine wS_set rfl rfl rfl (a_call rfl rfl fn8 rfl rfl (ev8)) ?_
  refine wS_set rfl rfl rfl (a_move rfl rfl) ?_
  refine wS_set rfl rfl rfl (a_move rfl rfl) ?_
  refine wS_set rfl rfl rfl (a_pickT rfl rfl) ?_
  refine wS_set rfl rfl rfl (a_move rfl rfl) ?_
  refine wS_set rfl rfl rfl (a_move rfl rfl) ?_
  refine wS_set rfl rfl rfl (a_pickT rfl rfl) ?_
  refine wS_set rfl rfl rfl (a_move rfl rfl) ?_
  refine wS_set rfl rfl rfl (a_load2 rfl rfl (hT rfl) rfl (by rw [cells_len (by assumption)]; exact Nat.le_refl _) (cells_load (by assumption))) ?_
  refine wS_set rfl rfl rfl (a_call rfl rfl fn24 rfl rfl (ev24 (by assumption))) ?_
  refine wS_set rfl rfl rfl (a_load2 rfl rfl (hT rfl) rfl (by rw [cells_len (by assumption)]; exact Nat.le_refl _) (cells_load (by assumption))) ?_
  refine wS_set rfl rfl rfl (a_call rfl rfl fn24 rfl rfl (ev24 (by assumption))) ?_
  refine wS_set rfl rfl rfl (n_add rfl rfl (by simp only [capN]; omega)) ?_
  refine wS_set rfl rfl rfl (a_load2 rfl rfl (hT rfl) rfl (by rw [cells_len (by assumption)]; exact Nat.le_refl _) (cells_load (by assumption))) ?_
  refine wS_set rfl rfl rfl (a_load2 rfl rfl (hT rfl) rfl (by rw [cells_len (by assumption)]; exact Nat.le_refl _) (cells_load (by assumption))) ?_
  refine wS_set rfl rfl rfl (a_call rfl rfl fn18 rfl rfl (union_ev (by assumption) (by assumption))) ?_
  refine wS_set rfl rfl rfl (a_call rfl rfl fn24 rfl rfl (ev24 (by assumption))) ?_
  refine wS_set rfl rfl rfl (a_load2 rfl rfl (hT rfl) rfl (by rw [cells_len (by assumption)]; exact Nat.le_refl _) (cells_load (by assumption))) ?_
  refine wS_set rfl rfl rfl (a_load2 rfl rfl (hT rfl) rfl (by rw [cells_len (by assumption)]; exact Nat.le_refl _) (cells_load (by assumption))) ?_
  refine wS_set rfl rfl rfl (a_call rfl rfl fn20 rfl rfl (inter_ev (by assumption) (by assumption))) ?_
  refine wS_set rfl rfl rfl (a_call rfl rfl fn24 rfl rfl (ev24 (by assumption))) ?_
  refine wS_set rfl rfl rfl (n_add rfl rfl (by simp only [capN]; omega)) ?_
  refine wS_set rfl rfl rfl (n_eqlT (incl_excl hA hB) rfl rfl) ?_
  refine wS_set rfl rfl rfl (a_pickT rfl rfl) ?_
  refine wS_set rfl rfl rfl (a_assign rfl rfl) ?_
  refine wO_nil ⟨rfl, by kernel_rfl, ?_⟩
  refine wC_ret ?_
  exact end_tmp rfl rfl

set_option maxRecDepth 100000 in
theorem ev4 {S : List (List Nat)} (hS : ∀ W ∈ S, isW W) : FnEv tab ext0 4 [.v (.sl 4 (rowS S))] [] (.ret [boolV true], []) := by
  have e1 := rowS_len S
  refine fn_go _ rfl fn4 rfl rfl rfl ?_
  refine wC_seq ?_
  refine wC_reg ?_
  refine wS_set rfl rfl rfl (a_assign rfl rfl) ?_
  refine wO_nil ?_
  refine wC_seq ?_
  refine wC_seq ?_
  refine wC_reg ?_
  refine wS_set rfl rfl rfl (a_move rfl rfl) ?_
  refine wS_set rfl rfl rfl (a_lenV rfl rfl (hT rfl) rfl) ?_
  refine wS_set rfl rfl rfl (n_gtr (b := 12) rfl rfl ) ?_
  refine wO_nil ?_
  refine wC_cond rfl (fun hc => ?_) (fun hc => ?_)
  · refine wC_seq ?_
    refine wC_reg ?_
    refine wS_set rfl rfl rfl (a_call rfl rfl fn8 rfl rfl (ev8)) ?_
    refine wS_set rfl rfl rfl (a_assign rfl rfl) ?_
    refine wO_nil ?_
    refine wC_ret ?_
    exact end_tmp rfl rfl
  · have hs : ¬ (rowS S).length > 12 := of_decide_eq_false hc
    refine wC_skip ?_
    refine wC_seq ?_
    refine wC_reg ?_
    refine wS_set rfl rfl rfl (a_call rfl rfl fn8 rfl rfl (ev8)) ?_
    refine wS_set rfl rfl rfl (a_move rfl rfl) ?_
    refine wS_set rfl rfl rfl (a_move rfl rfl) ?_
    refine wS_set rfl rfl rfl (a_call rfl rfl fn16 rfl rfl (ev16V hS (by omega))) ?_
    refine wS_set rfl rfl rfl (a_move rfl rfl) ?_
    refine wS_set rfl rfl rfl (a_call rfl rfl fn17 rfl rfl (ev17V hS (by omega))) ?_
    refine wS_set rfl rfl rfl (a_call rfl rfl fn15 rfl rfl (ev15T (by rw [clsRow_len]; omega))) ?_
    refine wS_set rfl rfl rfl (a_pickT rfl rfl) ?_
    refine wS_set rfl rfl rfl (a_assign rfl rfl) ?_
    refine wO_nil ?_
    refine wC_ret ?_
    exact end_tmp rfl rfl

end Go.Proofs.Ytgjochaacmkpaaa
