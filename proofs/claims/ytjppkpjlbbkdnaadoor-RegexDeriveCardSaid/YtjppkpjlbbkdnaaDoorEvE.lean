/-
  What is proved here: slices of any make, expressions as data, their validity and size, for the evaluator. Conditions: those that stand at each theorem.
-/
import Derived.Test.YtjppkpjlbbkdnaaDoorEvD

namespace Go.Dv
open Go

/-- A slice that grows: nil, or owned at a site. -/
def RowX (z s0 : Nat) (ob : Nat → Ob) (x : X) (es : List (List V)) : Prop :=
  (x = .nil z ∧ es = []) ∨ (es ≠ [] ∧ ∃ g, x = .own s0 g 0 es.length ∧ ob s0 = .row g true z es)
/-- A slice that is read: data, lent, nil, or owned at a site. -/
def SlX (z s0 : Nat) (ob : Nat → Ob) (x : X) (es : List (List V)) : Prop :=
  x = .v (.sl z es) ∨ x = .lent z es ∨ (x = .nil z ∧ es = []) ∨ ∃ g, x = .own s0 g 0 es.length ∧ ob s0 = .row g true z es
/-- Where an element lies. -/
def EltX (ob : Nat → Ob) (y : X) (c : List V) : Prop :=
  y = .ro c ∨ ∃ s g i mt z es, y = .elt s g i 0 ∧ ob s = .row g mt z es ∧ es[i]? = some c

theorem RowX.sl {z s0 : Nat} {ob : Nat → Ob} {x : X} {es : List (List V)} (h : RowX z s0 ob x es) : SlX z s0 ob x es := by
  rcases h with h | ⟨_, h⟩
  · exact .inr (.inr (.inl h))
  · exact .inr (.inr (.inr h))
theorem SlX.keep {z s0 : Nat} {ob ob' : Nat → Ob} {x : X} {es : List (List V)} (h : SlX z s0 ob x es) (e : ob' s0 = ob s0) : SlX z s0 ob' x es := by
  rcases h with h | h | h | ⟨g, h1, h2⟩
  · exact .inl h
  · exact .inr (.inl h)
  · exact .inr (.inr (.inl h))
  · exact .inr (.inr (.inr ⟨g, h1, e.trans h2⟩))
theorem RowX.keep {z s0 : Nat} {ob ob' : Nat → Ob} {x : X} {es : List (List V)} (h : RowX z s0 ob x es) (e : ob' s0 = ob s0) : RowX z s0 ob' x es := by
  rcases h with h | ⟨h0, g, h1, h2⟩
  · exact .inl h
  · exact .inr ⟨h0, g, h1, e.trans h2⟩
theorem SlX.kept {z s0 : Nat} {ob : Nat → Ob} {x : X} {es : List (List V)} (h : SlX z s0 ob x es) (hl : ∀ z es, x ≠ .lent z es) : ∃ ob', Kept ob x (.sl z es) ob' ∧ ∀ s, s ≠ s0 → ob' s = ob s := by
  rcases h with rfl | rfl | ⟨rfl, rfl⟩ | ⟨g, rfl, h2⟩
  · exact ⟨ob, .v, fun _ _ => rfl⟩
  · exact absurd rfl (hl _ _)
  · exact ⟨ob, .nil, fun _ _ => rfl⟩
  · exact ⟨_, .own h2 (by rw [List.drop_zero, List.take_of_length_le (Nat.le_refl _)]), fun s hs => by simp [upd, hs]⟩
theorem RowX.kept {z s0 : Nat} {ob : Nat → Ob} {x : X} {es : List (List V)} (h : RowX z s0 ob x es) : ∃ ob', Kept ob x (.sl z es) ob' ∧ ∀ s, s ≠ s0 → ob' s = ob s := by
  refine h.sl.kept fun z es e => ?_
  rcases h with ⟨rfl, _⟩ | ⟨_, g, rfl, _⟩ <;> cases e
theorem RowX.notNil {z s0 : Nat} {ob : Nat → Ob} {x : X} {es : List (List V)} (h : RowX z s0 ob x es) (hne : es ≠ []) : ∃ g, x = .own s0 g 0 es.length ∧ ob s0 = .row g true z es := by
  rcases h with ⟨_, h⟩ | ⟨_, h⟩
  · exact absurd h hne
  · exact h

section
variable {L : Lite} {ext : Ext} {ops : Array Oper} {n0 : Nat} {sl : Nat → X} {ob : Nat → Ob} {d : Option Tmp} {ty : TypeId} {pos : String} {af : Array Edge} {gd : Option (Nat × Bool)} {r : List Oper} {Q : Option V → St → Fp → Prop}

theorem a_lenS {x : Operand} {ts : Array TypeId} {t e : TypeId} {T : TI} {z s0 : Nat} {es : List (List V)} (hs : SlX z s0 ob ((St.opd ⟨n0, sl, ob⟩) x) es) (h0 : ts[0]? = some t) (ht : L.ti t = T) (hu : T.und = .slice e) :
    ActEv L ext ⟨d, .call { callee := .builtin .len, args := #[x], argTypes := ts }, ty, pos, af, gd⟩ ⟨n0, sl, ob⟩ (.v (natV es.length)) ob [] [] := by
  rcases hs with h | h | ⟨h, rfl⟩ | ⟨g, h, _⟩
  · exact a_lenV h h0 ht hu
  · exact a_lenL h h0 ht hu
  · exact a_lenN h h0 ht hu
  · exact a_lenO h h0 ht hu

theorem wS_idxS {t e : TypeId} {T E : TI} {tm : Tmp} {x y : Operand} {k : IntKind} {a z s0 : Nat} {es : List (List V)} {c : List V} (hs : SlX z s0 ob ((St.opd ⟨n0, sl, ob⟩) x) es) (hi : (St.opd ⟨n0, sl, ob⟩) y = .v (.lit (.int k (a : Int)))) (hc : es[a]? = some c)
    (ht : L.ti t = T) (hu : T.und = .slice e) (he : L.ti e = E) (hz : z = E.size) (hn : Nat.ble (tm + 1) n0 = true) (hg : guardX ops ⟨some tm, .indexAddr t x y, ty, pos, af, gd⟩ ⟨n0, sl, ob⟩ = some true)
    (hk : ∀ w rd, EltX ob w c → wpO L ext ops r ⟨n0, upd sl tm w, ob⟩ (fun p ρ' f => Q p ρ' ((rd, []) :: f))) : wpO L ext ops (⟨some tm, .indexAddr t x y, ty, pos, af, gd⟩ :: r) ⟨n0, sl, ob⟩ Q := by
  have hal : a < es.length := (List.getElem?_eq_some_iff.1 hc).1
  rcases hs with h | h | ⟨h, rfl⟩ | ⟨g, h, ho⟩
  · exact wS_set rfl hn hg (n_indexAddrV (L := L) (ext := ext) h hi ht hu he hz hc) (hk _ _ (.inl rfl))
  · exact wS_set rfl hn hg (n_indexAddrL (L := L) (ext := ext) h hi ht hu he hz hc) (hk _ _ (.inl rfl))
  · simp at hal
  · exact wS_set rfl hn hg (n_indexAddrP (L := L) (ext := ext) h hi ho ht hu he hz hal) (hk _ _ (.inr ⟨_, _, _, _, _, _, rfl, ho, hc⟩))

theorem wS_loadS2 {t : TypeId} {T : TI} {tm : Tmp} {x : Operand} {c : List V} (he : EltX ob ((St.opd ⟨n0, sl, ob⟩) x) c) (ht : L.ti t = T) (hk : T.kd = 2) (hl : c.length = T.size) (hn : Nat.ble (tm + 1) n0 = true) (hg : guardX ops ⟨some tm, .load t x, ty, pos, af, gd⟩ ⟨n0, sl, ob⟩ = some true)
    (hq : ∀ rd, wpO L ext ops r ⟨n0, upd sl tm (.v (.agg c)), ob⟩ (fun p ρ' f => Q p ρ' ((rd, []) :: f))) : wpO L ext ops (⟨some tm, .load t x, ty, pos, af, gd⟩ :: r) ⟨n0, sl, ob⟩ Q := by
  rcases he with h | ⟨s, g, i, mt, z, es, h, ho, hc⟩
  · have := a_loadR2 (L := L) (ext := ext) (d := some tm) (ty := ty) (pos := pos) (af := af) (gd := gd) h ht hk (Nat.le_of_eq hl.symm)
    rw [← hl, List.take_of_length_le (Nat.le_refl _)] at this
    exact wS_set rfl hn hg this (hq _)
  · have := a_loadE2 (L := L) (ext := ext) (d := some tm) (ty := ty) (pos := pos) (af := af) (gd := gd) h ho hc ht hk (by rw [Nat.zero_add, hl]; exact Nat.le_refl _)
    rw [List.drop_zero, ← hl, List.take_of_length_le (Nat.le_refl _)] at this
    exact wS_set rfl hn hg this (hq _)
theorem wS_loadS1 {t : TypeId} {T : TI} {tm : Tmp} {x : Operand} {v : V} (he : EltX ob ((St.opd ⟨n0, sl, ob⟩) x) [v]) (ht : L.ti t = T) (hk : T.kd = 1) (hn : Nat.ble (tm + 1) n0 = true) (hg : guardX ops ⟨some tm, .load t x, ty, pos, af, gd⟩ ⟨n0, sl, ob⟩ = some true)
    (hq : ∀ rd, wpO L ext ops r ⟨n0, upd sl tm (.v v), ob⟩ (fun p ρ' f => Q p ρ' ((rd, []) :: f))) : wpO L ext ops (⟨some tm, .load t x, ty, pos, af, gd⟩ :: r) ⟨n0, sl, ob⟩ Q := by
  rcases he with h | ⟨s, g, i, mt, z, es, h, ho, hc⟩
  · exact wS_set rfl hn hg (a_loadR1 (L := L) (ext := ext) h ht hk rfl) (hq _)
  · exact wS_set rfl hn hg (a_loadE1 (L := L) (ext := ext) h ho hc ht hk rfl) (hq _)

/-- Something is appended to a slice that grows. -/
theorem wS_appS {ts : Array TypeId} {t e : TypeId} {T E : TI} {tm : Tmp} {x y : Operand} {z s' g' lo m : Nat} {mt' : Bool} {es es1 es2 : List (List V)} (hr : RowX z tm ob ((St.opd ⟨n0, sl, ob⟩) x) es) (hy : (St.opd ⟨n0, sl, ob⟩) y = .own s' g' lo m) (ho' : ob s' = .row g' mt' z es1) (hes : (es1.drop lo).take m = es2)
    (h0 : ts[0]? = some t) (ht : L.ti t = T) (hu : T.und = .slice e) (he : L.ti e = E) (hty : srcTy L ts[1]? = true) (hzs : E.zero.isSome = true) (hz : z = E.size) (hb : es.length + es2.length ≤ big) (hby : Nat.ble E.bytes 1024 = true) (hne : es2 ≠ [])
    (hn : Nat.ble (tm + 1) n0 = true) (hg : guardX ops ⟨some tm, .call { callee := .builtin .append, args := #[x, y], argTypes := ts }, ty, pos, af, gd⟩ ⟨n0, sl, ob⟩ = some true)
    (hk : ∀ g rd, wpO L ext ops r ⟨n0, upd sl tm (.own tm g 0 (es ++ es2).length), upd ob tm (.row g true z (es ++ es2))⟩ (fun p ρ' f => Q p ρ' ((rd, [tm]) :: f))) :
    wpO L ext ops (⟨some tm, .call { callee := .builtin .append, args := #[x, y], argTypes := ts }, ty, pos, af, gd⟩ :: r) ⟨n0, sl, ob⟩ Q := by
  rcases hr with ⟨h, rfl⟩ | ⟨hne0, g, h, ho⟩
  · have := hk ((ob tm).gen + 1) ([s'] ++ [tm])
    simp only [List.nil_append] at this
    rw [hz] at this
    exact wS_set rfl hn hg (a_appendNO (L := L) (ext := ext) h hy ho' hes h0 ht hu he hty hzs hz (by simp at hb; omega) hby hne hn) this
  · have := hk (g + 1) ([s'] ++ [tm])
    rw [List.length_append] at this
    exact wS_set rfl hn hg (a_appendOO (L := L) (ext := ext) h ho hy ho' hes h0 ht hu he hty hzs hz rfl rfl hb hby) this

/-- What is kept of the contents of some slots, in turn. -/
inductive KeptL : (Nat → Ob) → List X → List V → (Nat → Ob) → Prop
  | nil {H : Nat → Ob} : KeptL H [] [] H
  | cons {H H1 H2 : Nat → Ob} {x : X} {v : V} {xs : List X} {vs : List V} (h : Kept H x v H1) (r : KeptL H1 xs vs H2) : KeptL H (x :: xs) (v :: vs) H2
theorem KeptL.frzs {α : Type} {H H1 : Nat → Ob} {xs : List X} {vs : List V} (h : KeptL H xs vs H1) : ∀ {k : List V → Ef α} {o : α} {H2 : Nat → Ob}, (∃ a b, (k vs).run H1 = some (o, H2, a, b)) → ∃ a b, (frzs xs k).run H = some (o, H2, a, b) := by
  induction h with
  | nil => intro k o H2 hk; exact hk
  | cons h r ih => intro k o H2 hk; exact h.frz (ih (k := fun ys => k (_ :: ys)) hk)

theorem wS_build {t : TypeId} {T : TI} {tm : Tmp} {ps : Array (Nat × Operand)} {fs : Array Field} {zx : List X} {zero ys cs : List V} {ob' : Nat → Ob} (hp : KeptL ob (ps.toList.map fun p => (St.opd ⟨n0, sl, ob⟩) p.2) ys ob') (ht : L.ti t = T) (hu : T.und = .struct fs) (hz : T.zero = some zx) (hv : xvs zx = some zero)
    (hf : fillV (fun i => (fs[i]?).map fun f => (f.offset, (L.ti f.type).size)) zero ((ps.toList.map (·.1)).zip ys) = some cs) (hn : Nat.ble (tm + 1) n0 = true) (hg : guardX ops ⟨some tm, .build t ps, ty, pos, af, gd⟩ ⟨n0, sl, ob⟩ = some true)
    (hk : ∀ rd wr, wpO L ext ops r ⟨n0, upd sl tm (.v (.agg cs)), ob'⟩ (fun p ρ' f => Q p ρ' ((rd, wr) :: f))) : wpO L ext ops (⟨some tm, .build t ps, ty, pos, af, gd⟩ :: r) ⟨n0, sl, ob⟩ Q := by
  subst ht
  obtain ⟨a, b, h⟩ := hp.frzs (k := fun ys => (match (L.ti t).und with
    | .struct fs => ov (fillV (fun i => (fs[i]?).map fun f => (f.offset, (L.ti f.type).size)) zero ((ps.toList.map (·.1)).zip ys)) fun cs => okv (.agg cs)
    | .array _ e => ov (fillV (fun i => some (i * (L.ti e).size, (L.ti e).size)) zero ((ps.toList.map (·.1)).zip ys)) fun cs => okv (.agg cs)
    | _ => .fail)) (o := .val (.v (.agg cs))) (H2 := ob') ⟨[], [], by rw [hu]; simp only [hf, ov, Ef.run]⟩
  have ha : ActEv L ext ⟨some tm, .build t ps, ty, pos, af, gd⟩ ⟨n0, sl, ob⟩ (.v (.agg cs)) ob' a b := by
    refine ⟨0, fun k _ => ?_⟩
    have e1 : ((ps.toList.map fun p => (p.1, (St.opd ⟨n0, sl, ob⟩) p.2)).map (·.2)) = ps.toList.map fun p => (St.opd ⟨n0, sl, ob⟩) p.2 := by simp [List.map_map, Function.comp_def]
    have e2 : ((ps.toList.map fun p => (p.1, (St.opd ⟨n0, sl, ob⟩) p.2)).map (·.1)) = ps.toList.map (·.1) := by simp [List.map_map, Function.comp_def]
    simp only [act, actBuild, hz, hv, ov]
    rw [e1, e2]
    exact h
  exact wS_set rfl hn hg ha (hk _ _)
/-- A struct built of data alone. -/
theorem a_build {t : TypeId} {T : TI} {ps : Array (Nat × Operand)} {fs : Array Field} {zx : List X} {zero ys cs : List V} (hp : ps.toList.map (fun p => (St.opd ⟨n0, sl, ob⟩) p.2) = ys.map X.v) (ht : L.ti t = T) (hu : T.und = .struct fs) (hz : T.zero = some zx) (hv : xvs zx = some zero)
    (hf : fillV (fun i => (fs[i]?).map fun f => (f.offset, (L.ti f.type).size)) zero ((ps.toList.map (·.1)).zip ys) = some cs) : ActEv L ext ⟨d, .build t ps, ty, pos, af, gd⟩ ⟨n0, sl, ob⟩ (.v (.agg cs)) ob [] [] := by
  subst ht
  have hfr : ∀ (ys : List V) (k : List V → Ef Outc), frzs (ys.map X.v) k = k ys := by
    intro ys
    induction ys with
    | nil => intro k; rfl
    | cons y ys ih => intro k; simp only [List.map_cons, frzs, frz]; rw [ih]
  refine ⟨0, fun k _ => ?_⟩
  have e1 : ((ps.toList.map fun p => (p.1, (St.opd ⟨n0, sl, ob⟩) p.2)).map (·.2)) = ys.map X.v := by rw [← hp]; simp [List.map_map, Function.comp_def]
  have e2 : ((ps.toList.map fun p => (p.1, (St.opd ⟨n0, sl, ob⟩) p.2)).map (·.1)) = ps.toList.map (·.1) := by simp [List.map_map, Function.comp_def]
  simp only [act, actBuild, hz, hv, ov]
  rw [e1, e2, hfr, hu]
  simp only [hf, ov, Ef.run]

/-! ### whole numbers of either sign -/
variable {t yt : TypeId} {x y : Operand} {k : IntKind} {a b : Int}
theorem iwrap {n : Int} (h : -9223372036854775808 ≤ n ∧ n ≤ 9223372036854775807) : IntKind.i64.wrap n = n := by
  simp [IntKind.wrap, IntKind.bits, IntKind.signed]; omega
theorem i_add (hx : (St.opd ⟨n0, sl, ob⟩) x = .v (.lit (.int .i64 a))) (hy : (St.opd ⟨n0, sl, ob⟩) y = .v (.lit (.int .i64 b))) (h : -9223372036854775808 ≤ a + b ∧ a + b ≤ 9223372036854775807) : ActEv L ext ⟨d, .binOp .add t x y yt, ty, pos, af, gd⟩ ⟨n0, sl, ob⟩ (.v (.lit (.int .i64 (a + b)))) ob [] [] :=
  a_bin hx hy (by simp [litBin, intOp, iwrap h])
theorem i_sub (hx : (St.opd ⟨n0, sl, ob⟩) x = .v (.lit (.int .i64 a))) (hy : (St.opd ⟨n0, sl, ob⟩) y = .v (.lit (.int .i64 b))) (h : -9223372036854775808 ≤ a - b ∧ a - b ≤ 9223372036854775807) : ActEv L ext ⟨d, .binOp .sub t x y yt, ty, pos, af, gd⟩ ⟨n0, sl, ob⟩ (.v (.lit (.int .i64 (a - b)))) ob [] [] :=
  a_bin hx hy (by simp [litBin, intOp, iwrap h])
theorem i_lss {p : Bool} (hx : (St.opd ⟨n0, sl, ob⟩) x = .v (.lit (.int k a))) (hy : (St.opd ⟨n0, sl, ob⟩) y = .v (.lit (.int k b))) (h : decide (a < b) = p) : ActEv L ext ⟨d, .binOp .lss t x y yt, ty, pos, af, gd⟩ ⟨n0, sl, ob⟩ (.v (.lit (.bool p))) ob [] [] :=
  a_bin hx hy (by simp [litBin, intOp, cmpI, ← h])
theorem i_leq {p : Bool} (hx : (St.opd ⟨n0, sl, ob⟩) x = .v (.lit (.int k a))) (hy : (St.opd ⟨n0, sl, ob⟩) y = .v (.lit (.int k b))) (h : decide (a ≤ b) = p) : ActEv L ext ⟨d, .binOp .leq t x y yt, ty, pos, af, gd⟩ ⟨n0, sl, ob⟩ (.v (.lit (.bool p))) ob [] [] :=
  a_bin hx hy (by simp [litBin, intOp, cmpI, ← h])
theorem i_gtr {p : Bool} (hx : (St.opd ⟨n0, sl, ob⟩) x = .v (.lit (.int k a))) (hy : (St.opd ⟨n0, sl, ob⟩) y = .v (.lit (.int k b))) (h : decide (a > b) = p) : ActEv L ext ⟨d, .binOp .gtr t x y yt, ty, pos, af, gd⟩ ⟨n0, sl, ob⟩ (.v (.lit (.bool p))) ob [] [] :=
  a_bin hx hy (by simp [litBin, intOp, cmpI, ← h])
theorem i_geq {p : Bool} (hx : (St.opd ⟨n0, sl, ob⟩) x = .v (.lit (.int k a))) (hy : (St.opd ⟨n0, sl, ob⟩) y = .v (.lit (.int k b))) (h : decide (a ≥ b) = p) : ActEv L ext ⟨d, .binOp .geq t x y yt, ty, pos, af, gd⟩ ⟨n0, sl, ob⟩ (.v (.lit (.bool p))) ob [] [] :=
  a_bin hx hy (by simp [litBin, intOp, cmpI, ← h])
theorem i_eql {p : Bool} (hx : (St.opd ⟨n0, sl, ob⟩) x = .v (.lit (.int k a))) (hy : (St.opd ⟨n0, sl, ob⟩) y = .v (.lit (.int k b))) (h : decide (a = b) = p) : ActEv L ext ⟨d, .binOp .eql t x y yt, ty, pos, af, gd⟩ ⟨n0, sl, ob⟩ (.v (.lit (.bool p))) ob [] [] :=
  a_bin hx hy (by simp [litBin, intOp, cmpI, ← h]; rfl)
theorem i_neq {p : Bool} (hx : (St.opd ⟨n0, sl, ob⟩) x = .v (.lit (.int k a))) (hy : (St.opd ⟨n0, sl, ob⟩) y = .v (.lit (.int k b))) (h : decide (a ≠ b) = p) : ActEv L ext ⟨d, .binOp .neq t x y yt, ty, pos, af, gd⟩ ⟨n0, sl, ob⟩ (.v (.lit (.bool p))) ob [] [] :=
  a_bin hx hy (by subst h; by_cases e : a = b <;> simp [litBin, intOp, cmpI, e])
end
end Go.Dv

namespace Go.Dv
open Go

inductive Rx where
  | mk (k : Int) (s : List Nat) (l : List Rx)

namespace Rx
def k : Rx → Int | .mk k _ _ => k
def s : Rx → List Nat | .mk _ s _ => s
def l : Rx → List Rx | .mk _ _ l => l
end Rx
mutual
def rxC : Rx → List V
  | .mk k s l => V.lit (.int .i64 k) :: (s.map word ++ [V.sl 6 (rxRows l)])
def rxRows : List Rx → List (List V)
  | [] => []
  | r :: l => rxC r :: rxRows l
end
def rxV (r : Rx) : V := .agg (rxC r)

theorem rxRows_map : ∀ l : List Rx, rxRows l = l.map rxC
  | [] => by rw [rxRows]; rfl
  | r :: l => by rw [rxRows, rxRows_map l]; rfl
theorem rxC_eq (r : Rx) : rxC r = V.lit (.int .i64 r.k) :: (r.s.map word ++ [V.sl 6 (rxRows r.l)]) := by
  cases r with
  | mk k s l => rw [rxC]; rfl
theorem rxRows_len (l : List Rx) : (rxRows l).length = l.length := by rw [rxRows_map, List.length_map]
theorem rxRows_get {l : List Rx} {i : Nat} {r : Rx} (h : l[i]? = some r) : (rxRows l)[i]? = some (rxC r) := by rw [rxRows_map, List.getElem?_map, h]; rfl
theorem rxRows_app (l m : List Rx) : rxRows (l ++ m) = rxRows l ++ rxRows m := by simp [rxRows_map]
theorem rxRows_drop (l : List Rx) (i : Nat) : rxRows (l.drop i) = (rxRows l).drop i := by simp [rxRows_map, List.map_drop]
theorem rxRows_one (r : Rx) : rxRows [r] = [rxC r] := by simp [rxRows_map]
theorem rxRows_cons (r : Rx) (l : List Rx) : rxRows (r :: l) = rxC r :: rxRows l := by simp [rxRows_map]
theorem rxRows_nil_iff {l : List Rx} : rxRows l = [] ↔ l = [] := by rw [rxRows_map, List.map_eq_nil_iff]

/-- What holds of all expressions that come in: sets are four words, kinds fit, lists are not too long. -/
inductive Rx.wf (B : Nat) : Rx → Prop
  | mk {k : Int} {s : List Nat} {l : List Rx} (hk : -9223372036854775808 ≤ k ∧ k ≤ 9223372036854775807) (hs : isW s) (hl : l.length ≤ B) (h : ∀ r ∈ l, Rx.wf B r) : Rx.wf B (.mk k s l)
theorem Rx.wf.kind {B : Nat} {r : Rx} (h : r.wf B) : -9223372036854775808 ≤ r.k ∧ r.k ≤ 9223372036854775807 := by cases h; assumption
theorem Rx.wf.set {B : Nat} {r : Rx} (h : r.wf B) : isW r.s := by cases h; assumption
theorem Rx.wf.len {B : Nat} {r : Rx} (h : r.wf B) : r.l.length ≤ B := by cases h; assumption
theorem Rx.wf.kids {B : Nat} {r : Rx} (h : r.wf B) : ∀ x ∈ r.l, x.wf B := by cases h; assumption
theorem Rx.wf.at {B : Nat} {r x : Rx} {i : Nat} (h : r.wf B) (hx : r.l[i]? = some x) : x.wf B := h.kids x (List.mem_of_getElem? hx)
theorem rxC_len {B : Nat} {r : Rx} (h : r.wf B) : (rxC r).length = 6 := by
  rw [rxC_eq, List.length_cons, List.length_append, List.length_map, h.set.1]; rfl
theorem Rx.eta (r : Rx) : r = .mk r.k r.s r.l := by cases r; rfl

theorem Rx.ind {P : Rx → Prop} (h : ∀ k s l, (∀ r ∈ l, P r) → P (.mk k s l)) : ∀ r, P r
  | .mk k s l => h k s l fun r hr => Rx.ind h r
termination_by r => SizeOf.sizeOf r
decreasing_by
  have := List.sizeOf_lt_of_mem hr
  simp_wf
  omega

theorem Rx.ind' {P : Rx → Prop} (h : ∀ r : Rx, (∀ x ∈ r.l, P x) → P r) : ∀ r, P r := Rx.ind fun k s l ih => h (.mk k s l) ih

/-- The cells of a box that holds an expression. -/
abbrev rxB (r : Rx) : List X := (rxC r).map X.v
theorem rxB_eq (r : Rx) : rxB r = .v (.lit (.int .i64 r.k)) :: (cells r.s ++ [.v (.sl 6 (rxRows r.l))]) := by
  unfold rxB; rw [rxC_eq]; simp [cells]
theorem rxB_len {B : Nat} {r : Rx} (h : r.wf B) : (rxB r).length = 6 := by unfold rxB; rw [List.length_map]; exact rxC_len h
theorem rxB_vs (r : Rx) : xvs (rxB r) = some (rxC r) := by
  unfold rxB
  generalize rxC r = l
  induction l with
  | nil => rfl
  | cons a l ih => simp only [List.map_cons, xvs, xv, ih]
theorem rxB_all {B : Nat} {r : Rx} (h : r.wf B) : xvs (((rxB r).drop 0).take 6) = some (rxC r) := by
  rw [List.drop_zero, List.take_of_length_le (Nat.le_of_eq (rxB_len h))]; exact rxB_vs r

section
variable {L : Lite} {ext : Ext} {ops : Array Oper} {n0 : Nat} {sl : Nat → X} {ob : Nat → Ob} {d : Option Tmp} {ty : TypeId} {pos : String} {af : Array Edge} {gd : Option (Nat × Bool)} {B : Nat}

theorem a_boxRx {s : Tmp} {t : TypeId} {T : TI} {x : Operand} {r : Rx} (hw : r.wf B) (hx : (St.opd ⟨n0, sl, ob⟩) x = .v (rxV r)) (ht : L.ti t = T) (hk : T.kd = 2) (hl : T.size = 6) (hn : Nat.ble (s + 1) n0 = true) :
    ActEv L ext ⟨some s, .box t x, ty, pos, af, gd⟩ ⟨n0, sl, ob⟩ (.addr s ((ob s).gen + 1) 0) (upd ob s (.box ((ob s).gen + 1) (rxB r))) [s] [s] :=
  a_box2 hx ht hk (by rw [hl]; exact rxC_len hw) hn
theorem a_storeRx {t : TypeId} {T : TI} {x y : Operand} {s g : Nat} {cs : List X} {r : Rx} (hw : r.wf B) (hx : (St.opd ⟨n0, sl, ob⟩) x = .addr s g 0) (hy : (St.opd ⟨n0, sl, ob⟩) y = .v (rxV r)) (ho : ob s = .box g cs) (hc : cs.length = 6) (ht : L.ti t = T) (hk : T.kd = 2)
    (hl : T.size = 6) : ActEv L ext ⟨d, .store t x y, ty, pos, af, gd⟩ ⟨n0, sl, ob⟩ .undef (upd ob s (.box g (rxB r))) [s] [s] := by
  have h6 := rxC_len hw
  have := a_store2 (L := L) (ext := ext) (d := d) (ty := ty) (pos := pos) (af := af) (gd := gd) hx hy ho ht hk (by rw [hl]; exact h6) (by rw [hc, h6]; exact Nat.le_refl _)
  have e : setRange cs 0 ((rxC r).map X.v) = rxB r := by
    unfold rxB
    generalize rxC r = l at h6
    match cs, l, hc, h6 with
    | [_, _, _, _, _, _], [_, _, _, _, _, _], _, _ => rfl
  rwa [e] at this
theorem a_loadRx {t : TypeId} {T : TI} {x : Operand} {s g : Nat} {r : Rx} (hw : r.wf B) (hx : (St.opd ⟨n0, sl, ob⟩) x = .addr s g 0) (ho : ob s = .box g (rxB r)) (ht : L.ti t = T) (hk : T.kd = 2) (hl : T.size = 6) :
    ActEv L ext ⟨d, .load t x, ty, pos, af, gd⟩ ⟨n0, sl, ob⟩ (.v (rxV r)) ob [s] [] :=
  a_load2 hx ho ht hk (by rw [hl, rxB_len hw]; exact Nat.le_refl _) (by rw [hl]; exact rxB_all hw)
theorem a_loadRxR {t : TypeId} {T : TI} {x : Operand} {r : Rx} (hw : r.wf B) (hx : (St.opd ⟨n0, sl, ob⟩) x = .ro (rxC r)) (ht : L.ti t = T) (hk : T.kd = 2) (hl : T.size = 6) :
    ActEv L ext ⟨d, .load t x, ty, pos, af, gd⟩ ⟨n0, sl, ob⟩ (.v (rxV r)) ob [] [] := by
  have h6 := rxC_len hw
  have := a_loadR2 (L := L) (ext := ext) (d := d) (ty := ty) (pos := pos) (af := af) (gd := gd) hx ht hk (by rw [hl, h6]; exact Nat.le_refl _)
  rw [hl, List.take_of_length_le (Nat.le_of_eq h6)] at this
  exact this
theorem a_loadK {t : TypeId} {T : TI} {x : Operand} {s g : Nat} {r : Rx} (hx : (St.opd ⟨n0, sl, ob⟩) x = .addr s g 0) (ho : ob s = .box g (rxB r)) (ht : L.ti t = T) (hk : T.kd = 1) :
    ActEv L ext ⟨d, .load t x, ty, pos, af, gd⟩ ⟨n0, sl, ob⟩ (.v (.lit (.int .i64 r.k))) ob [s] [] :=
  a_load1 hx ho ht hk (by rw [rxB_eq]; rfl)
theorem a_loadKids {t : TypeId} {T : TI} {x : Operand} {s g : Nat} {r : Rx} (hw : r.wf B) (hx : (St.opd ⟨n0, sl, ob⟩) x = .addr s g 5) (ho : ob s = .box g (rxB r)) (ht : L.ti t = T) (hk : T.kd = 1) :
    ActEv L ext ⟨d, .load t x, ty, pos, af, gd⟩ ⟨n0, sl, ob⟩ (.v (.sl 6 (rxRows r.l))) ob [s] [] :=
  a_load1 hx ho ht hk (by
    rw [rxB_eq]
    have h4 := cells_len hw.set
    generalize cells r.s = c at h4
    match c, h4 with
    | [_, _, _, _], _ => rfl)
theorem a_loadSet {t : TypeId} {T : TI} {x : Operand} {s g : Nat} {r : Rx} (hw : r.wf B) (hx : (St.opd ⟨n0, sl, ob⟩) x = .addr s g 1) (ho : ob s = .box g (rxB r)) (ht : L.ti t = T) (hk : T.kd = 2) (hl : T.size = 4) :
    ActEv L ext ⟨d, .load t x, ty, pos, af, gd⟩ ⟨n0, sl, ob⟩ (.v (setV r.s)) ob [s] [] :=
  a_load2 hx ho ht hk (by rw [hl, rxB_len hw]; decide) (by
    rw [hl, rxB_eq]
    have h4 := cells_len hw.set
    have hv := cells_vs r.s
    generalize cells r.s = c at h4 hv
    match c, h4 with
    | [_, _, _, _], _ => exact hv)
theorem n_kid {t e : TypeId} {T E : TI} {x y : Operand} {k : IntKind} {a : Nat} {l : List Rx} {r : Rx} (hr : l[a]? = some r) (hx : (St.opd ⟨n0, sl, ob⟩) x = .v (.sl 6 (rxRows l))) (hi : (St.opd ⟨n0, sl, ob⟩) y = .v (.lit (.int k (a : Int)))) (ht : L.ti t = T) (hu : T.und = .slice e) (he : L.ti e = E) (hz : E.size = 6) :
    ActEv L ext ⟨d, .indexAddr t x y, ty, pos, af, gd⟩ ⟨n0, sl, ob⟩ (.ro (rxC r)) ob [] [] :=
  n_indexAddrV hx hi ht hu he hz.symm (rxRows_get hr)
theorem a_lenK {x : Operand} {ts : Array TypeId} {t e : TypeId} {T : TI} {l : List Rx} (hx : (St.opd ⟨n0, sl, ob⟩) x = .v (.sl 6 (rxRows l))) (h0 : ts[0]? = some t) (ht : L.ti t = T) (hu : T.und = .slice e) :
    ActEv L ext ⟨d, .call { callee := .builtin .len, args := #[x], argTypes := ts }, ty, pos, af, gd⟩ ⟨n0, sl, ob⟩ (.v (natV l.length)) ob [] [] := by
  have := a_lenV (L := L) (ext := ext) (d := d) (ty := ty) (pos := pos) (af := af) (gd := gd) hx h0 ht hu
  rwa [rxRows_len] at this
end

/-- Data of the type of expressions is an expression. -/
theorem typed_rx {P : Program} {tr ts tk ti tw : TypeId} {fs : Array Field} (hr : P.underlying tr = some (.struct fs)) (hk : P.underlying tk = some (.slice tr)) (hi : P.underlying ti = some (.int .i64)) (hst : P.underlying ts = some (.array 4 tw)) (hw : P.underlying tw = some (.int .u64))
    (hfs : fs.toList.map (fun f => (f.type, f.offset)) = [(ti, 0), (ts, 1), (tk, 5)]) (c1 : P.cellsOf ti = 1) (c2 : P.cellsOf ts = 4) (c3 : P.cellsOf tk = 1) (c4 : P.cellsOf tr = 6) (c5 : P.cellsOf tw = 1) {t : TypeId} {cs : List V} (h : Typed P t cs) :
    (t = tr → ∃ r : Rx, r.wf maxLen ∧ cs = rxC r) ∧ (t = tk → ∃ l : List Rx, l.length ≤ maxLen ∧ (∀ r ∈ l, r.wf maxLen) ∧ cs = [.sl 6 (rxRows l)]) ∧
    (t = ti → ∃ n : Int, (-9223372036854775808 ≤ n ∧ n ≤ 9223372036854775807) ∧ cs = [.lit (.int .i64 n)]) ∧ (t = tw → ∃ n : Nat, n < 2 ^ 64 ∧ cs = [word n]) ∧ (t = ts → ∃ W, isW W ∧ cs = W.map word) := by
  induction h with
  | bool h b => refine ⟨?_, ?_, ?_, ?_, ?_⟩ <;> rintro rfl <;> simp_all
  | string h s hs => refine ⟨?_, ?_, ?_, ?_, ?_⟩ <;> rintro rfl <;> simp_all
  | @int t k h n hwf =>
    refine ⟨?_, ?_, ?_, ?_, ?_⟩
    · rintro rfl; rw [hr] at h; cases h
    · rintro rfl; rw [hk] at h; cases h
    · rintro rfl; rw [hi] at h; cases h
      have : -9223372036854775808 ≤ n ∧ n ≤ 9223372036854775807 := by simpa [Lit.wf, IntKind.min, IntKind.max, IntKind.signed, IntKind.bits] using hwf
      exact ⟨n, this, rfl⟩
    · rintro rfl; rw [hw] at h; cases h
      have : 0 ≤ n ∧ n ≤ 18446744073709551615 := by simpa [Lit.wf, IntKind.min, IntKind.max, IntKind.signed, IntKind.bits] using hwf
      exact ⟨n.toNat, by omega, by rw [word, Int.toNat_of_nonneg this.1]⟩
    · rintro rfl; rw [hst] at h; cases h
  | @slice t e h es hl hrow ih =>
    refine ⟨?_, ?_, ?_, ?_, ?_⟩
    · rintro rfl; rw [hr] at h; cases h
    · rintro rfl; rw [hk] at h; cases h
      rw [c4]
      have : ∀ es : List (List V), (∀ row ∈ es, ∃ r : Rx, r.wf maxLen ∧ row = rxC r) → ∃ l : List Rx, l.length = es.length ∧ (∀ r ∈ l, r.wf maxLen) ∧ es = rxRows l := by
        intro es
        induction es with
        | nil => intro _; exact ⟨[], rfl, fun r h => by simp at h, by rw [rxRows]⟩
        | cons a es ih2 =>
          intro hh
          obtain ⟨r, h1, rfl⟩ := hh a List.mem_cons_self
          obtain ⟨l, h2, h3, rfl⟩ := ih2 fun row hrow => hh row (List.mem_cons_of_mem _ hrow)
          refine ⟨r :: l, by simp [h2], fun x hx => ?_, by rw [rxRows]⟩
          rcases List.mem_cons.1 hx with rfl | hx
          · exact h1
          · exact h3 x hx
      obtain ⟨l, h1, h2, rfl⟩ := this es fun row hrow => (ih row hrow).1 rfl
      exact ⟨l, by rw [rxRows_len] at hl; exact hl, h2, rfl⟩
    · rintro rfl; rw [hi] at h; cases h
    · rintro rfl; rw [hw] at h; cases h
    · rintro rfl; rw [hst] at h; cases h
  | @struct t fs' h cs hl hrow ih =>
    refine ⟨?_, ?_, ?_, ?_, ?_⟩
    · rintro rfl; rw [hr] at h; cases h
      rw [c4] at hl
      have fld : ∀ p ∈ [(ti, 0), (ts, 1), (tk, 5)], ∃ f ∈ fs.toList, f.type = p.1 ∧ f.offset = p.2 := by
        intro p hp
        rw [← hfs] at hp
        obtain ⟨f, hf, rfl⟩ := List.mem_map.1 hp
        exact ⟨f, hf, rfl, rfl⟩
      obtain ⟨f1, m1, t1, o1⟩ := fld (ti, 0) (by simp)
      obtain ⟨f2, m2, t2, o2⟩ := fld (ts, 1) (by simp)
      obtain ⟨f3, m3, t3, o3⟩ := fld (tk, 5) (by simp)
      obtain ⟨n, hn, e1⟩ := (ih f1 m1).2.2.1 t1
      obtain ⟨W, hW, e2⟩ := (ih f2 m2).2.2.2.2 t2
      obtain ⟨l, hl1, hl2, e3⟩ := (ih f3 m3).2.1 t3
      rw [t1, o1, c1] at e1
      rw [t2, o2, c2] at e2
      rw [t3, o3, c3] at e3
      refine ⟨.mk n W l, .mk hn hW hl1 hl2, ?_⟩
      rw [rxC]
      match cs, hl with
      | [a, b, c, d, e, f], _ =>
        simp at e1 e2 e3
        rw [e1, e3, ← e2]
        rfl
    · rintro rfl; rw [hk] at h; cases h
    · rintro rfl; rw [hi] at h; cases h
    · rintro rfl; rw [hw] at h; cases h
    · rintro rfl; rw [hst] at h; cases h
  | @array t e n h cs hl hrow ih =>
    refine ⟨?_, ?_, ?_, ?_, ?_⟩
    · rintro rfl; rw [hr] at h; cases h
    · rintro rfl; rw [hk] at h; cases h
    · rintro rfl; rw [hi] at h; cases h
    · rintro rfl; rw [hw] at h; cases h
    · rintro rfl; rw [hst] at h; cases h
      rw [c5] at hl ih
      match cs, hl with
      | [a, b, c, d], _ =>
        obtain ⟨w0, k0, e0⟩ := (ih 0 (by omega)).2.2.2.1 rfl
        obtain ⟨w1, k1, e1⟩ := (ih 1 (by omega)).2.2.2.1 rfl
        obtain ⟨w2, k2, e2⟩ := (ih 2 (by omega)).2.2.2.1 rfl
        obtain ⟨w3, k3, e3⟩ := (ih 3 (by omega)).2.2.2.1 rfl
        simp at e0 e1 e2 e3
        refine ⟨[w0, w1, w2, w3], ⟨rfl, fun i => ?_⟩, by rw [e0, e1, e2, e3]; rfl⟩
        match i with
        | 0 => exact k0
        | 1 => exact k1
        | 2 => exact k2
        | 3 => exact k3
        | i + 4 => exact (by decide : (0 : Nat) < 2 ^ 64)
end Go.Dv

namespace Go.Dv
open Go

theorem eqCells_words : ∀ {A B : List Nat}, A.length = B.length → eqCells (A.map word) (B.map word) = some (decide (A = B))
  | [], [], _ => rfl
  | [], _ :: _, h => by simp at h
  | _ :: _, [], h => by simp at h
  | a :: A, b :: B, h => by
    have ih := eqCells_words (A := A) (B := B) (by simpa using h)
    have e : eqCell (word a) (word b) = some (decide (a = b)) := by
      have : ((a : Int) == (b : Int)) = decide (a = b) := natBeq a b
      simp [eqCell, word, this]
    simp only [List.map_cons, eqCells, e, ih]
    congr 1
    by_cases h1 : a = b <;> by_cases h2 : A = B <;> simp [h1, h2]

section
variable {L : Lite} {ext : Ext} {ops : Array Oper} {n0 : Nat} {sl : Nat → X} {ob : Nat → Ob} {d : Option Tmp} {ty : TypeId} {pos : String} {af : Array Edge} {gd : Option (Nat × Bool)} {t yt : TypeId} {x y : Operand}
theorem a_build0 {T : TI} {zx : List X} {zero : List V} (ht : L.ti t = T) (hz : T.zero = some zx) (hv : xvs zx = some zero) (hk : T.kd = 2) (hu : (match T.und with | .struct _ => true | .array _ _ => true | _ => false) = true) : ActEv L ext ⟨d, .build t #[], ty, pos, af, gd⟩ ⟨n0, sl, ob⟩ (.v (.agg zero)) ob [] [] := by
  subst ht
  refine ⟨0, fun k _ => ?_⟩
  simp only [act, actBuild, hz, hv, ov, List.map_nil, frzs]
  split at hu
  · rename_i h; simp [h, fillV, ov, Ef.run]
  · rename_i h; simp [h, fillV, ov, Ef.run]
  · cases hu
theorem a_binBe {T : TI} {a b p : Bool} (hx : (St.opd ⟨n0, sl, ob⟩) x = .v (.lit (.bool a))) (hy : (St.opd ⟨n0, sl, ob⟩) y = .v (.lit (.bool b))) (ht : L.ti t = T) (hu : T.und = .bool) (h : (a == b) = p) :
    ActEv L ext ⟨d, .binOp .eql t x y yt, ty, pos, af, gd⟩ ⟨n0, sl, ob⟩ (.v (.lit (.bool p))) ob [] [] := h ▸ a_binB hx hy ht hu rfl
theorem kindsW {W : List Nat} (h : isW W) : (W.map word).map litK = [1, 1, 1, 1] := by
  obtain ⟨h, _⟩ := h
  match W, h with
  | [a, b, c, d], _ => rfl
theorem a_eqSet {P Q : List Nat} {p : Bool} (hP : isW P) (hQ : isW Q) (h : decide (P = Q) = p) (he : L.eqt.lookup t = some [1, 1, 1, 1]) (hx : (St.opd ⟨n0, sl, ob⟩) x = .v (setV P)) (hy : (St.opd ⟨n0, sl, ob⟩) y = .v (setV Q)) :
    ActEv L ext ⟨d, .binOp .eql t x y yt, ty, pos, af, gd⟩ ⟨n0, sl, ob⟩ (.v (.lit (.bool p))) ob [] [] :=
  h ▸ a_eqAgg hx hy (by rw [kindsW hP]; exact he) (by rw [kindsW hP, kindsW hQ]) (eqCells_words (hP.1.trans hQ.1.symm))
theorem a_neSet {P Q : List Nat} {p : Bool} (hP : isW P) (hQ : isW Q) (h : decide (P = Q) = p) (he : L.eqt.lookup t = some [1, 1, 1, 1]) (hx : (St.opd ⟨n0, sl, ob⟩) x = .v (setV P)) (hy : (St.opd ⟨n0, sl, ob⟩) y = .v (setV Q)) :
    ActEv L ext ⟨d, .binOp .neq t x y yt, ty, pos, af, gd⟩ ⟨n0, sl, ob⟩ (.v (.lit (.bool !p))) ob [] [] :=
  h ▸ a_neAgg hx hy (by rw [kindsW hP]; exact he) (by rw [kindsW hP, kindsW hQ]) (eqCells_words (hP.1.trans hQ.1.symm))
end

/-- A block behind which it is said what holds. -/
theorem wC_blockI {L : Lite} {ext : Ext} {id : Nat} {c : Code} {ρ : St} {QC : Ex → St → Prop} (I : St → Prop)
    (h1 : wpC L ext c ρ (fun e ρ' => match e with | .normal => I ρ' | .exit i => if i = id then I ρ' else QC (.exit i) ρ' | e => QC e ρ')) (h2 : ∀ ρ', I ρ' → QC .normal ρ') : wpC L ext (.block id c) ρ QC := by
  refine wC_block (wpC_mono h1 fun e ρ' h => ?_)
  cases e with
  | normal => exact h2 _ h
  | exit i =>
    simp only at h ⊢
    split at h
    · rename_i e; rw [if_pos e]; exact h2 _ h
    · rename_i e; rw [if_neg e]; exact h
  | ret => exact h
  | pan v => exact h

/-! ### sizes -/
mutual
def shal : Rx → Nat → Int → Int
  | .mk _ _ l, lv, left => if 50 < lv ∨ left ≤ 0 then -1 else shals l lv (left - 1)
def shals : List Rx → Nat → Int → Int
  | [], _, left => left
  | r :: l, lv, left => if left < 0 then left else shals l lv (shal r (lv + 1) left)
end
theorem shal_eq (r : Rx) (lv : Nat) (left : Int) : shal r lv left = if 50 < lv ∨ left ≤ 0 then -1 else shals r.l lv (left - 1) := by
  cases r; rw [shal]; rfl
theorem shals_neg {l : List Rx} {lv : Nat} {left : Int} (h : left < 0) : shals l lv left = left := by
  cases l with
  | nil => rw [shals]
  | cons r l => rw [shals, if_pos h]
theorem shals_step {l : List Rx} {i lv : Nat} {r : Rx} {left : Int} (h : l[i]? = some r) (h0 : 0 ≤ left) : shals (l.drop i) lv left = shals (l.drop (i + 1)) lv (shal r (lv + 1) left) := by
  obtain ⟨hi, rfl⟩ := List.getElem?_eq_some_iff.1 h
  rw [List.drop_eq_getElem_cons hi, shals, if_neg (by omega)]

theorem shal_le : ∀ (r : Rx) (lv : Nat) (left : Int), -1 ≤ shal r lv left ∧ (shal r lv left = -1 ∨ shal r lv left < left) := by
  intro r
  induction r using Rx.ind with
  | h k s l ih =>
    intro lv left
    have key : ∀ (l : List Rx), (∀ r ∈ l, ∀ (lv : Nat) (left : Int), -1 ≤ shal r lv left ∧ (shal r lv left = -1 ∨ shal r lv left < left)) → ∀ (lv : Nat) (left : Int), -1 ≤ left → -1 ≤ shals l lv left ∧ shals l lv left ≤ left := by
      intro l
      induction l with
      | nil => intro _ lv left h; rw [shals]; omega
      | cons r l ih2 =>
        intro hh lv left h
        rw [shals]
        split
        · omega
        · rename_i h0
          obtain ⟨h1, h2⟩ := hh r List.mem_cons_self (lv + 1) left
          obtain ⟨h3, h4⟩ := ih2 (fun x hx => hh x (List.mem_cons_of_mem _ hx)) lv (shal r (lv + 1) left) h1
          omega
    rw [shal]
    split
    · omega
    · rename_i h
      obtain ⟨h1, h2⟩ := key l ih lv (left - 1) (by omega)
      omega

/-! ### validity -/
def lims (k : Int) (n : Nat) : Option (Nat × Nat) :=
  if k = 1 ∨ k = 2 ∨ k = 3 then some (0, 0) else if k = 4 ∨ k = 5 then some (2, n) else if k = 6 then some (1, 1) else .none
mutual
def validP : Rx → Nat → Bool
  | .mk k s l, d => if d = 0 then false else if decide (k = 3) = decide (s = zeroW) then false else
    match lims k l.length with
    | .none => false
    | some (lo, hi) => if l.length < lo ∨ hi < l.length then false else validPs l (d - 1)
def validPs : List Rx → Nat → Bool
  | [], _ => true
  | r :: l, d => validP r d && validPs l d
end
mutual
def validR : Rx → Nat → Bool
  | .mk k s l, a => if 30 ≤ a then false else if k ≠ 3 ∧ s ≠ zeroW then false else
    if k = 1 ∨ k = 2 then decide (l.length = 0) else if k = 3 then decide (l.length = 0) && decide (s ≠ zeroW) else
    if k = 4 ∨ k = 5 then (if l.length < 2 then false else validRs l (a + 1)) else
    if k = 6 then (if l.length ≠ 1 then false else validRs l (a + 1)) else false
def validRs : List Rx → Nat → Bool
  | [], _ => true
  | r :: l, a => validR r a && validRs l a
end
theorem lims_none {k : Int} {n : Nat} (h : lims k n = .none) : k ≠ 1 ∧ k ≠ 2 ∧ k ≠ 3 ∧ k ≠ 4 ∧ k ≠ 5 ∧ k ≠ 6 := by
  unfold lims at h
  split at h
  · cases h
  · split at h
    · cases h
    · split at h
      · cases h
      · omega
theorem lims_some {k : Int} {n lo hi : Nat} (h : lims k n = some (lo, hi)) : ((k = 1 ∨ k = 2 ∨ k = 3) ∧ lo = 0 ∧ hi = 0) ∨ ((k = 4 ∨ k = 5) ∧ lo = 2 ∧ hi = n) ∨ (k = 6 ∧ lo = 1 ∧ hi = 1) := by
  unfold lims at h
  split at h
  · cases h; rename_i h; exact .inl ⟨h, rfl, rfl⟩
  · split at h
    · cases h; rename_i h; exact .inr (.inl ⟨h, rfl, rfl⟩)
    · split at h
      · cases h; rename_i h; exact .inr (.inr ⟨h, rfl, rfl⟩)
      · cases h
theorem validP_eq (r : Rx) (d : Nat) : validP r d = if d = 0 then false else if decide (r.k = 3) = decide (r.s = zeroW) then false else
    match lims r.k r.l.length with
    | .none => false
    | some (lo, hi) => if r.l.length < lo ∨ hi < r.l.length then false else validPs r.l (d - 1) := by
  cases r; rw [validP]; rfl
theorem validR_eq (r : Rx) (a : Nat) : validR r a = if 30 ≤ a then false else if r.k ≠ 3 ∧ r.s ≠ zeroW then false else
    if r.k = 1 ∨ r.k = 2 then decide (r.l.length = 0) else if r.k = 3 then decide (r.l.length = 0) && decide (r.s ≠ zeroW) else
    if r.k = 4 ∨ r.k = 5 then (if r.l.length < 2 then false else validRs r.l (a + 1)) else
    if r.k = 6 then (if r.l.length ≠ 1 then false else validRs r.l (a + 1)) else false := by
  cases r; rw [validR]; rfl
theorem validPs_f {l : List Rx} {i d : Nat} {r : Rx} (h : l[i]? = some r) (hv : validP r d = false) : validPs (l.drop i) d = false := by
  obtain ⟨hi, rfl⟩ := List.getElem?_eq_some_iff.1 h
  rw [List.drop_eq_getElem_cons hi, validPs, hv]; rfl
theorem validPs_t {l : List Rx} {i d : Nat} {r : Rx} (h : l[i]? = some r) (hv : validP r d = true) : validPs (l.drop i) d = validPs (l.drop (i + 1)) d := by
  obtain ⟨hi, rfl⟩ := List.getElem?_eq_some_iff.1 h
  rw [List.drop_eq_getElem_cons hi, validPs, hv]; rfl
theorem validRs_f {l : List Rx} {i d : Nat} {r : Rx} (h : l[i]? = some r) (hv : validR r d = false) : validRs (l.drop i) d = false := by
  obtain ⟨hi, rfl⟩ := List.getElem?_eq_some_iff.1 h
  rw [List.drop_eq_getElem_cons hi, validRs, hv]; rfl
theorem validRs_t {l : List Rx} {i d : Nat} {r : Rx} (h : l[i]? = some r) (hv : validR r d = true) : validRs (l.drop i) d = validRs (l.drop (i + 1)) d := by
  obtain ⟨hi, rfl⟩ := List.getElem?_eq_some_iff.1 h
  rw [List.drop_eq_getElem_cons hi, validRs, hv]; rfl

theorem valid_same : ∀ (r : Rx) (d : Nat), d ≤ 30 → validP r d = validR r (30 - d) := by
  intro r
  induction r using Rx.ind with
  | h k s l ih =>
    intro d hd
    have kids : ∀ (l : List Rx), (∀ r ∈ l, ∀ (d : Nat), d ≤ 30 → validP r d = validR r (30 - d)) → ∀ d, d ≤ 30 → validPs l d = validRs l (30 - d) := by
      intro l
      induction l with
      | nil => intro _ d _; rw [validPs, validRs]
      | cons r l ih2 =>
        intro hh d hd
        rw [validPs, validRs, hh r List.mem_cons_self d hd, ih2 (fun x hx => hh x (List.mem_cons_of_mem _ hx)) d hd]
    have kd := kids l ih
    rw [validP, validR]
    by_cases h0 : d = 0
    · subst h0; simp
    · have e30 : 30 - d + 1 = 30 - (d - 1) := by omega
      have hn : ¬ 30 ≤ 30 - d := by omega
      rw [if_neg h0, if_neg hn, e30, ← kd (d - 1) (by omega)]
      by_cases hk3 : k = 3
      · subst hk3
        by_cases hs : s = zeroW
        · simp [hs]
        · cases l with
          | nil => simp [hs, lims, validPs]
          | cons a l => simp [hs, lims]
      · by_cases hs : s = zeroW
        · subst hs
          by_cases h1 : k = 1
          · subst h1; cases l <;> simp [lims, validPs]
          · by_cases h2 : k = 2
            · subst h2; cases l <;> simp [lims, validPs]
            · by_cases h4 : k = 4
              · subst h4; simp [lims]
              · by_cases h5 : k = 5
                · subst h5; simp [lims]
                · by_cases h6 : k = 6
                  · subst h6
                    simp [lims]
                    by_cases hl : l.length = 1
                    · have : l ≠ [] := by intro e; rw [e] at hl; simp at hl
                      simp [hl, this]
                    · have : l = [] ∨ 1 < l.length := by
                        cases l with
                        | nil => exact .inl rfl
                        | cons a l => right; simp at hl ⊢; cases l with
                          | nil => exact absurd rfl hl
                          | cons b l => simp
                      rcases this with h | h <;> simp [hl, h]
                  · simp [lims, hk3, h1, h2, h4, h5, h6]
        · simp [hk3, hs]
end Go.Dv

namespace Go.Dv
open Go

def noneR : Rx := .mk 1 zeroW []
def emptyR : Rx := .mk 2 zeroW []

/-- Expressions of which every repetition has something to repeat. -/
inductive Rx.good (B : Nat) : Rx → Prop
  | mk {k : Int} {s : List Nat} {l : List Rx} (hk : -9223372036854775808 ≤ k ∧ k ≤ 9223372036854775807) (hs : isW s) (hl : l.length ≤ B) (h6 : k = 6 → l ≠ []) (h : ∀ r ∈ l, Rx.good B r) : Rx.good B (.mk k s l)
theorem Rx.good.wf {B : Nat} {r : Rx} (h : r.good B) : r.wf B := by
  induction h with
  | mk hk hs hl h6 h ih => exact .mk hk hs hl ih
theorem Rx.good.kids {B : Nat} {r : Rx} (h : r.good B) : ∀ x ∈ r.l, x.good B := by cases h; assumption
theorem Rx.good.star {B : Nat} {r : Rx} (h : r.good B) (h6 : r.k = 6) : r.l ≠ [] := by cases h with | mk _ _ _ k _ => exact k h6
theorem Rx.good.len {B : Nat} {r : Rx} (h : r.good B) : r.l.length ≤ B := h.wf.len
theorem Rx.good.at {B : Nat} {r x : Rx} {i : Nat} (h : r.good B) (hx : r.l[i]? = some x) : x.good B := h.kids x (List.mem_of_getElem? hx)
theorem noneR_good {B : Nat} : noneR.good B := .mk (by omega) isW_zero (Nat.zero_le _) (by omega) fun r h => by simp at h
theorem emptyR_good {B : Nat} : emptyR.good B := .mk (by omega) isW_zero (Nat.zero_le _) (by omega) fun r h => by simp at h
theorem Rx.wf.le {B C : Nat} (hBC : B ≤ C) {r : Rx} (h : r.wf B) : r.wf C := by
  induction h with
  | mk hk hs hl h ih => exact .mk hk hs (Nat.le_trans hl hBC) ih

/-! ### the empty string -/
mutual
def nul : Rx → Bool
  | .mk k _ l => if k = 2 ∨ k = 6 then true else if k = 4 then nulAll l else if k = 5 then nulAny l else false
def nulAll : List Rx → Bool
  | [] => true
  | r :: l => nul r && nulAll l
def nulAny : List Rx → Bool
  | [] => false
  | r :: l => nul r || nulAny l
end
theorem nul_eq (r : Rx) : nul r = if r.k = 2 ∨ r.k = 6 then true else if r.k = 4 then nulAll r.l else if r.k = 5 then nulAny r.l else false := by
  cases r; rw [nul]; rfl
theorem nulAll_drop {l : List Rx} {i : Nat} {r : Rx} (h : l[i]? = some r) : nulAll (l.drop i) = (nul r && nulAll (l.drop (i + 1))) := by
  obtain ⟨hi, rfl⟩ := List.getElem?_eq_some_iff.1 h
  rw [List.drop_eq_getElem_cons hi, nulAll]
theorem nulAny_drop {l : List Rx} {i : Nat} {r : Rx} (h : l[i]? = some r) : nulAny (l.drop i) = (nul r || nulAny (l.drop (i + 1))) := by
  obtain ⟨hi, rfl⟩ := List.getElem?_eq_some_iff.1 h
  rw [List.drop_eq_getElem_cons hi, nulAny]

/-! ### equality -/
mutual
def eqR : Rx → Rx → Bool
  | .mk k s l, .mk k' s' l' => decide (k = k') && (decide (s = s') && (decide (l.length = l'.length) && eqRs l l'))
def eqRs : List Rx → List Rx → Bool
  | [], [] => true
  | a :: l, b :: m => eqR a b && eqRs l m
  | _, _ => false
end
theorem eqR_eq (a b : Rx) : eqR a b = (decide (a.k = b.k) && (decide (a.s = b.s) && (decide (a.l.length = b.l.length) && eqRs a.l b.l))) := by
  cases a; cases b; rw [eqR]; rfl
theorem eqRs_drop {l m : List Rx} {i : Nat} {a b : Rx} (ha : l[i]? = some a) (hb : m[i]? = some b) : eqRs (l.drop i) (m.drop i) = (eqR a b && eqRs (l.drop (i + 1)) (m.drop (i + 1))) := by
  obtain ⟨h1, rfl⟩ := List.getElem?_eq_some_iff.1 ha
  obtain ⟨h2, rfl⟩ := List.getElem?_eq_some_iff.1 hb
  rw [List.drop_eq_getElem_cons h1, List.drop_eq_getElem_cons h2, eqRs]
theorem eqR_iff : ∀ (a b : Rx), eqR a b = true ↔ a = b := by
  intro a
  induction a using Rx.ind with
  | h k s l ih =>
    intro b
    cases b with
    | mk k' s' l' =>
      have key : ∀ (l l' : List Rx), (∀ r ∈ l, ∀ b, eqR r b = true ↔ r = b) → (eqRs l l' = true ↔ l = l') := by
        intro l
        induction l with
        | nil => intro l' _; cases l' with
          | nil => simp [eqRs]
          | cons b l' => simp [eqRs]
        | cons a l ih2 =>
          intro l' hh
          cases l' with
          | nil => simp [eqRs]
          | cons b l' =>
            simp only [eqRs, Bool.and_eq_true, hh a List.mem_cons_self b, ih2 l' fun r hr => hh r (List.mem_cons_of_mem _ hr), List.cons.injEq]
      rw [eqR]
      simp only [Bool.and_eq_true, decide_eq_true_eq, key l l' ih, Rx.mk.injEq]
      constructor
      · rintro ⟨rfl, rfl, _, rfl⟩; exact ⟨rfl, rfl, rfl⟩
      · rintro ⟨rfl, rfl, rfl⟩; exact ⟨rfl, rfl, rfl, rfl⟩
theorem eqR_dec (a b : Rx) : eqR a b = false ↔ a ≠ b := by
  rw [← Bool.not_eq_true, Ne, eqR_iff]

/-! ### concatenation -/
def catLoop : List Rx → List Rx → Rx ⊕ List Rx
  | [], acc => .inr acc
  | r :: l, acc => if r.k = 1 then .inl r else if r.k ≠ 2 then catLoop l (acc ++ [r]) else catLoop l acc
def catEnd : List Rx → Rx
  | [] => emptyR
  | [x] => x
  | ks => .mk 4 zeroW ks
def concatR (l : List Rx) : Rx :=
  match catLoop l [] with
  | .inl r => r
  | .inr ks => catEnd ks
theorem catLoop_drop {l acc : List Rx} {i : Nat} {r : Rx} (h : l[i]? = some r) : catLoop (l.drop i) acc = if r.k = 1 then .inl r else if r.k ≠ 2 then catLoop (l.drop (i + 1)) (acc ++ [r]) else catLoop (l.drop (i + 1)) acc := by
  obtain ⟨hi, rfl⟩ := List.getElem?_eq_some_iff.1 h
  rw [List.drop_eq_getElem_cons hi, catLoop]

/-! ### union -/
def uniAdd (kids : List Rx) (k : Rx) : List Rx := if k.k = 1 then kids else if kids.any (fun o => eqR o k) then kids else kids ++ [k]
def mem (r : Rx) : List Rx := if r.k = 5 then r.l else [r]
def uniAll (kids : List Rx) : List Rx → List Rx
  | [] => kids
  | k :: l => uniAll (uniAdd kids k) l
def uniK (kids : List Rx) : List Rx → List Rx
  | [] => kids
  | r :: l => uniK (uniAll kids (mem r)) l
def uniEnd : List Rx → Rx
  | [] => noneR
  | [x] => x
  | ks => .mk 5 zeroW ks
def unionR (l : List Rx) : Rx := uniEnd (uniK [] l)
theorem uniAll_drop {l kids : List Rx} {i : Nat} {r : Rx} (h : l[i]? = some r) : uniAll kids (l.drop i) = uniAll (uniAdd kids r) (l.drop (i + 1)) := by
  obtain ⟨hi, rfl⟩ := List.getElem?_eq_some_iff.1 h
  rw [List.drop_eq_getElem_cons hi, uniAll]
theorem uniK_drop {l kids : List Rx} {i : Nat} {r : Rx} (h : l[i]? = some r) : uniK kids (l.drop i) = uniK (uniAll kids (mem r)) (l.drop (i + 1)) := by
  obtain ⟨hi, rfl⟩ := List.getElem?_eq_some_iff.1 h
  rw [List.drop_eq_getElem_cons hi, uniK]
theorem uniAdd_len (kids : List Rx) (k : Rx) : kids.length ≤ (uniAdd kids k).length := by
  unfold uniAdd; split
  · omega
  · split
    · omega
    · simp
theorem uniAll_len : ∀ (l kids : List Rx), kids.length ≤ (uniAll kids l).length
  | [], kids => Nat.le_refl _
  | k :: l, kids => Nat.le_trans (uniAdd_len kids k) (uniAll_len l _)
theorem uniK_len : ∀ (l kids : List Rx), kids.length ≤ (uniK kids l).length
  | [], kids => Nat.le_refl _
  | r :: l, kids => Nat.le_trans (uniAll_len (mem r) kids) (uniK_len l _)

theorem uniAdd_skip {kids : List Rx} {k : Rx} (h : k.k = 1) : uniAdd kids k = kids := by unfold uniAdd; rw [if_pos h]
theorem uniAdd_old {kids : List Rx} {k : Rx} {i : Nat} {o : Rx} (ho : kids[i]? = some o) (h : eqR o k = true) : uniAdd kids k = kids := by
  unfold uniAdd; split
  · rfl
  · rw [if_pos (List.any_eq_true.2 ⟨o, List.mem_of_getElem? ho, h⟩)]
theorem uniAdd_new {kids : List Rx} {k : Rx} (h1 : k.k ≠ 1) (h : ∀ (i : Nat) (o : Rx), kids[i]? = some o → eqR o k = false) : uniAdd kids k = kids ++ [k] := by
  unfold uniAdd
  rw [if_neg h1, if_neg]
  intro he
  obtain ⟨o, ho, e⟩ := List.any_eq_true.1 he
  obtain ⟨i, hi⟩ := List.mem_iff_getElem?.1 ho
  rw [h i o hi] at e
  cases e

/-! ### derivatives -/
mutual
def der (b : Nat) : Rx → Rx
  | .mk k s l => if k = 3 then (if has s b then emptyR else noneR) else if k = 4 then unionR (derCat b l) else if k = 5 then unionR (derAll b l) else
    if k = 6 then (match derAll b l with | [] => noneR | d :: _ => concatR [d, .mk k s l]) else noneR
def derCat (b : Nat) : List Rx → List Rx
  | [] => []
  | r :: l => concatR (der b r :: l) :: (if nul r then derCat b l else [])
def derAll (b : Nat) : List Rx → List Rx
  | [] => []
  | r :: l => der b r :: derAll b l
end
theorem der_eq (b : Nat) (r : Rx) : der b r = if r.k = 3 then (if has r.s b then emptyR else noneR) else if r.k = 4 then unionR (derCat b r.l) else if r.k = 5 then unionR (derAll b r.l) else
    if r.k = 6 then (match derAll b r.l with | [] => noneR | d :: _ => concatR [d, r]) else noneR := by
  cases r; rw [der]; rfl
theorem derAll_map (b : Nat) : ∀ l : List Rx, derAll b l = l.map (der b)
  | [] => by rw [derAll]; rfl
  | r :: l => by rw [derAll, derAll_map b l]; rfl
theorem derCat_drop {b : Nat} {l : List Rx} {i : Nat} {r : Rx} (h : l[i]? = some r) : derCat b (l.drop i) = concatR (der b r :: l.drop (i + 1)) :: (if nul r then derCat b (l.drop (i + 1)) else []) := by
  obtain ⟨hi, rfl⟩ := List.getElem?_eq_some_iff.1 h
  rw [List.drop_eq_getElem_cons hi, derCat]
theorem derCat_len (b : Nat) : ∀ l : List Rx, (derCat b l).length ≤ l.length
  | [] => by rw [derCat]; exact Nat.le_refl _
  | r :: l => by
    rw [derCat]
    have := derCat_len b l
    split
    · simp only [List.length_cons]; omega
    · simp

/-- The unions that a derivative is made of are not too wide. -/
inductive okD (B : Nat) (b : Nat) : Rx → Prop
  | mk {r : Rx} (h : r.k = 4 ∨ r.k = 5 ∨ r.k = 6 → ∀ x ∈ r.l, okD B b x) (h4 : r.k = 4 → (uniK [] (derCat b r.l)).length ≤ B) (h5 : r.k = 5 → (uniK [] (derAll b r.l)).length ≤ B) : okD B b r

/-! ### what is made is good -/
theorem catLoop_good {B : Nat} : ∀ {l acc : List Rx}, (∀ r ∈ l, r.good B) → (∀ r ∈ acc, r.good B) → match catLoop l acc with
    | .inl r => r.good B
    | .inr ks => (∀ r ∈ ks, r.good B) ∧ ks.length ≤ acc.length + l.length
  | [], acc, _, h => ⟨h, Nat.le_refl _⟩
  | r :: l, acc, hl, ha => by
    rw [catLoop]
    have hr := hl r List.mem_cons_self
    have hl' : ∀ x ∈ l, x.good B := fun x hx => hl x (List.mem_cons_of_mem _ hx)
    by_cases h1 : r.k = 1
    · rw [if_pos h1]; exact hr
    · rw [if_neg h1]
      by_cases h2 : r.k ≠ 2
      · rw [if_pos h2]
        have := catLoop_good (l := l) (acc := acc ++ [r]) hl' fun x hx => by
          rcases List.mem_append.1 hx with hx | hx
          · exact ha x hx
          · rw [List.mem_singleton.1 hx]; exact hr
        cases e : catLoop l (acc ++ [r]) with
        | inl x => rw [e] at this; exact this
        | inr ks => rw [e] at this; refine ⟨this.1, ?_⟩; have := this.2; simp at this ⊢; omega
      · rw [if_neg h2]
        have := catLoop_good (l := l) (acc := acc) hl' ha
        cases e : catLoop l acc with
        | inl x => rw [e] at this; exact this
        | inr ks => rw [e] at this; refine ⟨this.1, ?_⟩; have := this.2; simp at this ⊢; omega
theorem catEnd_good {B : Nat} {ks : List Rx} (h : ∀ r ∈ ks, r.good B) (hl : ks.length ≤ B) : (catEnd ks).good B := by
  unfold catEnd
  split
  · exact emptyR_good
  · exact h _ (by simp)
  · exact .mk (by omega) isW_zero hl (by omega) h
theorem concatR_good {B : Nat} {l : List Rx} (h : ∀ r ∈ l, r.good B) (hl : l.length ≤ B) : (concatR l).good B := by
  have := catLoop_good (l := l) (acc := []) h fun r h => by simp at h
  unfold concatR
  split
  · rename_i e; rw [e] at this; exact this
  · rename_i e; rw [e] at this; exact catEnd_good this.1 (by have := this.2; simp at this; omega)
theorem uniAdd_good {B : Nat} {kids : List Rx} {k : Rx} (h : ∀ r ∈ kids, r.good B) (hk : k.good B) : ∀ r ∈ uniAdd kids k, r.good B := by
  unfold uniAdd; split
  · exact h
  · split
    · exact h
    · intro x hx
      rcases List.mem_append.1 hx with hx | hx
      · exact h x hx
      · rw [List.mem_singleton.1 hx]; exact hk
theorem uniAll_good {B : Nat} : ∀ {l kids : List Rx}, (∀ r ∈ l, r.good B) → (∀ r ∈ kids, r.good B) → ∀ r ∈ uniAll kids l, r.good B
  | [], kids, _, h => h
  | k :: l, kids, hl, h => uniAll_good (l := l) (fun x hx => hl x (List.mem_cons_of_mem _ hx)) (uniAdd_good h (hl k List.mem_cons_self))
theorem mem_good {B : Nat} {r : Rx} (h : r.good B) : ∀ x ∈ mem r, x.good B := by
  unfold mem; split
  · exact h.kids
  · intro x hx; rw [List.mem_singleton.1 hx]; exact h
theorem uniK_good {B : Nat} : ∀ {l kids : List Rx}, (∀ r ∈ l, r.good B) → (∀ r ∈ kids, r.good B) → ∀ r ∈ uniK kids l, r.good B
  | [], kids, _, h => h
  | r :: l, kids, hl, h => uniK_good (l := l) (fun x hx => hl x (List.mem_cons_of_mem _ hx)) (uniAll_good (mem_good (hl r List.mem_cons_self)) h)
theorem uniEnd_good {B : Nat} {ks : List Rx} (h : ∀ r ∈ ks, r.good B) (hl : ks.length ≤ B) : (uniEnd ks).good B := by
  unfold uniEnd
  split
  · exact noneR_good
  · exact h _ (by simp)
  · exact .mk (by omega) isW_zero hl (by omega) h
theorem unionR_good {B : Nat} {l : List Rx} (h : ∀ r ∈ l, r.good B) (hl : (uniK [] l).length ≤ B) : (unionR l).good B :=
  uniEnd_good (uniK_good h fun r h => by simp at h) hl

theorem derCat_good {B b : Nat} : ∀ {l : List Rx}, (∀ x ∈ l, x.good B) → (∀ x ∈ l, (der b x).good B) → l.length ≤ B → ∀ x ∈ derCat b l, x.good B
  | [], _, _, _, x, hx => by rw [derCat] at hx; simp at hx
  | r :: l, h1, h2, hl, x, hx => by
    rw [derCat] at hx
    have hl' : l.length ≤ B := by simp at hl; omega
    have h0 : (concatR (der b r :: l)).good B := concatR_good (fun y hy => by
      rcases List.mem_cons.1 hy with rfl | hy
      · exact h2 r List.mem_cons_self
      · exact h1 y (List.mem_cons_of_mem _ hy)) (by simpa using hl)
    rcases List.mem_cons.1 hx with rfl | hx
    · exact h0
    · split at hx
      · exact derCat_good (fun y hy => h1 y (List.mem_cons_of_mem _ hy)) (fun y hy => h2 y (List.mem_cons_of_mem _ hy)) hl' x hx
      · simp at hx

theorem der_good {B b : Nat} (hB : 2 ≤ B) : ∀ (r : Rx), r.good B → okD B b r → (der b r).good B := by
  intro r
  induction r using Rx.ind' with
  | h r ih =>
    intro hg ho
    cases ho with
    | mk h h4 h5 =>
      rw [der_eq]
      split
      · split
        · exact emptyR_good
        · exact noneR_good
      · split
        · rename_i hk
          exact unionR_good (derCat_good hg.kids (fun x hx => ih x hx (hg.kids x hx) (h (.inl hk) x hx)) hg.len) (h4 hk)
        · split
          · rename_i hk
            refine unionR_good (fun x hx => ?_) (h5 hk)
            rw [derAll_map] at hx
            obtain ⟨y, hy, rfl⟩ := List.mem_map.1 hx
            exact ih y hy (hg.kids y hy) (h (.inr (.inl hk)) y hy)
          · split
            · rename_i hk
              rw [derAll_map]
              cases hl : r.l with
              | nil => exact noneR_good
              | cons a l =>
                have ha : a ∈ r.l := by rw [hl]; exact List.mem_cons_self
                refine concatR_good (fun y hy => ?_) hB
                rcases List.mem_cons.1 hy with rfl | hy
                · exact ih a ha (hg.kids a ha) (h (.inr (.inr hk)) a ha)
                · rw [List.mem_singleton.1 hy]; exact hg
            · exact noneR_good

def derL : List Nat → Rx → Rx
  | [], r => r
  | b :: w, r => derL w (der b r)
theorem derL_snoc : ∀ (w : List Nat) (c : Nat) (r : Rx), derL (w ++ [c]) r = der c (derL w r)
  | [], c, r => rfl
  | b :: w, c, r => derL_snoc w c (der b r)
end Go.Dv

namespace Go.Dv
open Go

/-- The cells of a new expression. -/
def rxZ : List X := [natX .i64 0, natX .u64 0, natX .u64 0, natX .u64 0, natX .u64 0, .nil 6]

section
variable {L : Lite} {ext : Ext} {ops : Array Oper} {n0 : Nat} {sl : Nat → X} {ob : Nat → Ob} {d : Option Tmp} {ty : TypeId} {pos : String} {af : Array Edge} {gd : Option (Nat × Bool)} {B : Nat}

theorem retypeS {z s0 : Nat} {es : List (List V)} {x : X} {e : TypeId} {T E : TI} (hs : SlX z s0 ob x es) (ht : L.ti ty = T) (hu : T.und = .slice e) (he : L.ti e = E) (hz : z = E.size) : retype L ty x = x := by
  rcases hs with rfl | rfl | ⟨rfl, rfl⟩ | ⟨g, rfl, _⟩
  · rfl
  · rfl
  · simp [retype, ht, hu, he, hz]
  · rfl
theorem a_moveS {z s0 : Nat} {es : List (List V)} {x : Operand} {e : TypeId} {T E : TI} (hs : SlX z s0 ob ((St.opd ⟨n0, sl, ob⟩) x) es) (ht : L.ti ty = T) (hu : T.und = .slice e) (he : L.ti e = E) (hz : z = E.size) :
    ActEv L ext ⟨d, .move x, ty, pos, af, gd⟩ ⟨n0, sl, ob⟩ ((St.opd ⟨n0, sl, ob⟩) x) ob [] [] :=
  ⟨0, fun k _ => by simp [act, retypeS hs ht hu he hz, Ef.run]⟩
theorem a_assignS {z s0 : Nat} {es : List (List V)} {x : Operand} {e : TypeId} {T E : TI} (hs : SlX z s0 ob ((St.opd ⟨n0, sl, ob⟩) x) es) (ht : L.ti ty = T) (hu : T.und = .slice e) (he : L.ti e = E) (hz : z = E.size) :
    ActEv L ext ⟨d, .assign x, ty, pos, af, gd⟩ ⟨n0, sl, ob⟩ ((St.opd ⟨n0, sl, ob⟩) x) ob [] [] :=
  ⟨0, fun k _ => by simp [act, retypeS hs ht hu he hz, Ef.run]⟩

theorem a_bs1Rx {s : Tmp} {t e : TypeId} {T E : TI} {x : Operand} {zx : List X} {zero : List V} {r : Rx} (hw : r.wf B) (hx : (St.opd ⟨n0, sl, ob⟩) x = .v (rxV r)) (ht : L.ti t = T) (hu : T.und = .slice e) (he : L.ti e = E)
    (hz : E.zero = some zx) (hv : xvs zx = some zero) (h6 : zero.length = 6) (hs : E.size = 6) (hn : Nat.ble (s + 1) n0 = true) :
    ActEv L ext ⟨some s, .buildSlice t 1 #[(0, x)], ty, pos, af, gd⟩ ⟨n0, sl, ob⟩ (.own s ((ob s).gen + 1) 0 1) (upd ob s (.row ((ob s).gen + 1) true 6 (rxRows [r]))) [s] [s] := by
  have := a_buildSlice (L := L) (ext := ext) (s := s) (ty := ty) (pos := pos) (af := af) (gd := gd) (n0 := n0) (sl := sl) (ob := ob) (t := t) (len := 1) (ps := #[(0, x)]) (ys := [rxV r]) (es := rxRows [r]) (by simp [hx]) ht hu he hz hv
    (by simp [setParts, V.cells, rxV, rxC_len hw, h6, rxRows_one]) (by rw [hs]; rfl) hn
  rw [hs] at this
  exact this
theorem a_bs2Rx {s : Tmp} {t e : TypeId} {T E : TI} {x y : Operand} {zx : List X} {zero : List V} {r q : Rx} (hw : r.wf B) (hw' : q.wf B) (hx : (St.opd ⟨n0, sl, ob⟩) x = .v (rxV r)) (hy : (St.opd ⟨n0, sl, ob⟩) y = .v (rxV q)) (ht : L.ti t = T) (hu : T.und = .slice e) (he : L.ti e = E)
    (hz : E.zero = some zx) (hv : xvs zx = some zero) (h6 : zero.length = 6) (hs : E.size = 6) (hn : Nat.ble (s + 1) n0 = true) :
    ActEv L ext ⟨some s, .buildSlice t 2 #[(0, x), (1, y)], ty, pos, af, gd⟩ ⟨n0, sl, ob⟩ (.own s ((ob s).gen + 1) 0 2) (upd ob s (.row ((ob s).gen + 1) true 6 (rxRows [r, q]))) [s] [s] := by
  have := a_buildSlice (L := L) (ext := ext) (s := s) (ty := ty) (pos := pos) (af := af) (gd := gd) (n0 := n0) (sl := sl) (ob := ob) (t := t) (len := 2) (ps := #[(0, x), (1, y)]) (ys := [rxV r, rxV q]) (es := rxRows [r, q]) (by simp [hx, hy]) ht hu he hz hv
    (by simp [setParts, V.cells, rxV, rxC_len hw, rxC_len hw', h6, rxRows_map, List.replicate]) (by rw [hs]; rfl) hn
  rw [hs] at this
  exact this

theorem end_rx {fn : Func} {a t s g : Nat} {T : TI} {r : Rx} (hw : r.wf B) (hr : fn.results.toList = [.cell a t]) (hx : sl a = .addr s g 0) (ho : ob s = .box g (rxB r)) (ht : L.ti t = T) (hk : T.kd = 2) (hs : T.size = 6) :
    endF L fn 0 (.ret [rxV r], []) .ret ⟨n0, sl, ob⟩ :=
  end_res hr (.cell2 hx ho ht hk (by rw [hs, rxB_len hw]; exact Nat.le_refl _) (by rw [hs]; exact rxB_all hw) .nil) rfl

/-- A slice of data, from a place on. -/
theorem a_sliceFrom {t e : TypeId} {T E : TI} {x y : Operand} {k : IntKind} {a z : Nat} {es : List (List V)} (hx : (St.opd ⟨n0, sl, ob⟩) x = .v (.sl z es)) (hy : (St.opd ⟨n0, sl, ob⟩) y = .v (.lit (.int k (a : Int)))) (ht : L.ti t = T) (hu : T.und = .slice e) (he : L.ti e = E) (hz : z = E.size) (ha : a ≤ es.length) :
    ActEv L ext ⟨d, .slice t x (some y) .none .none, ty, pos, af, gd⟩ ⟨n0, sl, ob⟩ (.v (.sl z (es.drop a))) ob [] [] :=
  ⟨0, fun k' _ => by
    have e1 : (es.drop a).take (es.length - a) = es.drop a := List.take_of_length_le (by simp)
    simp [act, hx, hy, actSlice, ht, hu, he, hz, bounds, num, ha, e1, Ef.run]⟩
end
end Go.Dv

namespace Go.Dv
open Go

theorem lent_ev {L : Lite} {ext : Ext} {g : FuncId} {z : Nat} {es es' : List (List V)} {r : Res × List (List V)} (h : es' = es) (hc : FnEv L ext g [.lent z es] [] r) : FnEv L ext g [.lent z es'] [] r := h ▸ hc
theorem whole {α : Type} {es : List α} {n : Nat} (h : es.length ≤ n) : (es.drop 0).take n = es := by rw [List.drop_zero, List.take_of_length_le h]

section
variable {L : Lite} {ext : Ext} {n0 : Nat} {sl : Nat → X} {ob : Nat → Ob} {d : Option Tmp} {ty : TypeId} {pos : String} {af : Array Edge} {gd : Option (Nat × Bool)}
/-- A call to which one own slice is lent. -/
theorem a_callL {f x : Operand} {ats : Array TypeId} {g : FuncId} {fn : Func} {s gg lo m z : Nat} {es : List (List V)} {vs : List V} (hf : (St.opd ⟨n0, sl, ob⟩) f = .clo g []) (hx : (St.opd ⟨n0, sl, ob⟩) x = .own s gg lo m) (ho : ob s = .row gg true z es) (hfn : L.fn.getD g .none = some fn) (hz : L.frz.contains g = false)
    (hc : FnEv L ext g [.lent z ((es.drop lo).take m)] [] (.ret vs, [])) (hb : L.xb.contains g = false := by rfl) (hit : L.its.lookup g = .none := by rfl) (hjn : L.jn.contains g = false := by rfl) : ActEv L ext ⟨d, .call { callee := .value f, args := #[x], argTypes := ats }, ty, pos, af, gd⟩ ⟨n0, sl, ob⟩ (resX vs) ob [s] [] := by
  have := a_call (L := L) (ext := ext) (d := d) (ty := ty) (pos := pos) (af := af) (gd := gd) (args := #[x]) (ats := ats) (xs := [.own s gg lo m]) (as := [.lent z ((es.drop lo).take m)]) (rd := [s]) hf (by simp [hx]) hfn hz (by simp [handP, ho]) hc hb hit hjn
  exact this
end

/-- The bytes of a string, as numbers. -/
def bl (s : ByteArray) : List Nat := s.data.toList.map (·.toNat)
theorem bl_len (s : ByteArray) : (bl s).length = s.size := by simp [bl]
theorem bl_at {s : ByteArray} {i : Nat} (h : i < s.size) : (bl s)[i]? = some (byteAt s i).toNat := by
  have := byteAt_get h
  unfold bl
  rw [List.getElem?_map, Array.getElem?_toList]
  have e : s.data[i]? = s[i]? := by
    rw [Array.getElem?_eq_getElem (show i < s.data.size from h), getElem?_pos s i h]; rfl
  rw [e, this]; rfl
theorem bl_take {s : ByteArray} {i : Nat} (h : i < s.size) : (bl s).take (i + 1) = (bl s).take i ++ [(byteAt s i).toNat] := by
  rw [List.take_add_one, bl_at h]; rfl
theorem bl_all (s : ByteArray) : (bl s).take s.size = bl s := List.take_of_length_le (Nat.le_of_eq (bl_len s))
theorem bl_lt {s : ByteArray} : ∀ b ∈ bl s, b < 256 := by
  intro b hb
  obtain ⟨x, _, rfl⟩ := List.mem_map.1 hb
  exact UInt8.toNat_lt x
theorem derL_take {s : ByteArray} {i : Nat} (h : i < s.size) (r : Rx) : derL ((bl s).take (i + 1)) r = der (byteAt s i).toNat (derL ((bl s).take i) r) := by
  rw [bl_take h, derL_snoc]
/-- All the derivatives on a string's way are not too wide. -/
def okW (B : Nat) (w : List Nat) (r : Rx) : Prop := ∀ i c, w[i]? = some c → okD B c (derL (w.take i) r)
theorem derL_good {B : Nat} (hB : 2 ≤ B) {w : List Nat} {r : Rx} (hr : r.good B) (ho : okW B w r) : ∀ i, i ≤ w.length → (derL (w.take i) r).good B
  | 0, _ => by rw [List.take_zero]; exact hr
  | i + 1, h => by
    have hi : w[i]? = some (w[i]'(by omega)) := List.getElem?_eq_getElem (by omega)
    rw [List.take_add_one, hi]
    show (derL (w.take i ++ [w[i]'(by omega)]) r).good B
    rw [derL_snoc]
    exact der_good hB _ (derL_good hB hr ho i (by omega)) (ho i _ hi)
end Go.Dv

namespace Go.Dv
open Go

mutual
inductive Mat : Rx → List Nat → Prop
  | empty {s : List Nat} {l : List Rx} : Mat (.mk 2 s l) []
  | set {s : List Nat} {l : List Rx} {b : Nat} (h : has s b = true) : Mat (.mk 3 s l) [b]
  | cat {s : List Nat} {l : List Rx} {w : List Nat} (h : MatL l w) : Mat (.mk 4 s l) w
  | uni {s : List Nat} {l : List Rx} {w : List Nat} {r : Rx} (hr : r ∈ l) (h : Mat r w) : Mat (.mk 5 s l) w
  | star0 {s : List Nat} {l : List Rx} : Mat (.mk 6 s l) []
  | star1 {s : List Nat} {l : List Rx} {x : Rx} {u v : List Nat} (h : Mat x u) (k : Mat (.mk 6 s (x :: l)) v) : Mat (.mk 6 s (x :: l)) (u ++ v)
inductive MatL : List Rx → List Nat → Prop
  | nil : MatL [] []
  | cons {r : Rx} {l : List Rx} {u v : List Nat} (h : Mat r u) (k : MatL l v) : MatL (r :: l) (u ++ v)
end

theorem Mat.of2 {r : Rx} (h : r.k = 2) {w : List Nat} : Mat r w ↔ w = [] := by
  obtain ⟨k, s, l⟩ := r
  obtain rfl : k = 2 := h
  constructor
  · intro h; cases h; rfl
  · rintro rfl; exact .empty
theorem Mat.of3 {r : Rx} (h : r.k = 3) {w : List Nat} : Mat r w ↔ ∃ b, w = [b] ∧ has r.s b = true := by
  obtain ⟨k, s, l⟩ := r
  obtain rfl : k = 3 := h
  constructor
  · intro h; cases h with | set h => exact ⟨_, rfl, h⟩
  · rintro ⟨b, rfl, h⟩; exact .set h
theorem Mat.of4 {r : Rx} (h : r.k = 4) {w : List Nat} : Mat r w ↔ MatL r.l w := by
  obtain ⟨k, s, l⟩ := r
  obtain rfl : k = 4 := h
  constructor
  · intro h; cases h with | cat h => exact h
  · exact .cat
theorem Mat.of5 {r : Rx} (h : r.k = 5) {w : List Nat} : Mat r w ↔ ∃ x ∈ r.l, Mat x w := by
  obtain ⟨k, s, l⟩ := r
  obtain rfl : k = 5 := h
  constructor
  · intro h; cases h with | uni hr h => exact ⟨_, hr, h⟩
  · rintro ⟨x, hr, h⟩; exact .uni hr h
theorem Mat.of_other {r : Rx} (h : r.k ≠ 2 ∧ r.k ≠ 3 ∧ r.k ≠ 4 ∧ r.k ≠ 5 ∧ r.k ≠ 6) {w : List Nat} : ¬ Mat r w := by
  intro hm
  cases hm <;> simp [Rx.k] at h
theorem Mat.of1 {r : Rx} (h : r.k = 1) {w : List Nat} : ¬ Mat r w := Mat.of_other (by omega)
theorem MatL.of_nil {w : List Nat} : MatL [] w ↔ w = [] := by
  constructor
  · intro h; cases h; rfl
  · rintro rfl; exact .nil
theorem MatL.of_cons {r : Rx} {l : List Rx} {w : List Nat} : MatL (r :: l) w ↔ ∃ u v, w = u ++ v ∧ Mat r u ∧ MatL l v := by
  constructor
  · intro h; cases h with | cons h k => exact ⟨_, _, rfl, h, k⟩
  · rintro ⟨u, v, rfl, h, k⟩; exact .cons h k
theorem MatL.of_app {l m : List Rx} : ∀ {w : List Nat}, MatL (l ++ m) w ↔ ∃ u v, w = u ++ v ∧ MatL l u ∧ MatL m v := by
  induction l with
  | nil =>
    intro w
    constructor
    · intro h; exact ⟨[], w, rfl, .nil, h⟩
    · rintro ⟨u, v, rfl, h, k⟩; rw [MatL.of_nil] at h; subst h; exact k
  | cons r l ih =>
    intro w
    rw [List.cons_append, MatL.of_cons]
    constructor
    · rintro ⟨u, v, rfl, h, k⟩
      obtain ⟨a, b, rfl, h2, k2⟩ := ih.1 k
      exact ⟨u ++ a, b, by rw [List.append_assoc], .cons h h2, k2⟩
    · rintro ⟨u, v, rfl, h, k⟩
      cases h with
      | cons h1 h2 => exact ⟨_, _, by rw [List.append_assoc], h1, ih.2 ⟨_, _, rfl, h2, k⟩⟩
theorem MatL.of_one {r : Rx} {w : List Nat} : MatL [r] w ↔ Mat r w := by
  rw [MatL.of_cons]
  constructor
  · rintro ⟨u, v, rfl, h, k⟩; rw [MatL.of_nil] at k; subst k; rw [List.append_nil]; exact h
  · intro h; exact ⟨w, [], by rw [List.append_nil], h, .nil⟩
/-- Repetition: nothing, or one and then more. -/
theorem Mat.of6 {r x : Rx} {l : List Rx} (h : r.k = 6) (hl : r.l = x :: l) {w : List Nat} : Mat r w ↔ w = [] ∨ ∃ u v, w = u ++ v ∧ Mat x u ∧ Mat r v := by
  obtain ⟨k, s, l'⟩ := r
  obtain rfl : k = 6 := h
  obtain rfl : l' = x :: l := hl
  constructor
  · intro h
    cases h with
    | star0 => exact .inl rfl
    | star1 h k => exact .inr ⟨_, _, rfl, h, k⟩
  · rintro (rfl | ⟨u, v, rfl, h, k⟩)
    · exact .star0
    · exact .star1 h k

/-! ### the empty string -/
theorem nul_iff : ∀ (r : Rx), nul r = true ↔ Mat r [] := by
  intro r
  induction r using Rx.ind' with
  | h r ih =>
    rw [nul_eq]
    by_cases h26 : r.k = 2 ∨ r.k = 6
    · rw [if_pos h26]
      refine ⟨fun _ => ?_, fun _ => rfl⟩
      rcases h26 with h | h
      · exact (Mat.of2 h).2 rfl
      · obtain ⟨k, s, l⟩ := r
        obtain rfl : k = 6 := h
        exact .star0
    · rw [if_neg h26]
      by_cases h4 : r.k = 4
      · rw [if_pos h4, Mat.of4 h4]
        have : ∀ l : List Rx, (∀ x ∈ l, (nul x = true ↔ Mat x [])) → (nulAll l = true ↔ MatL l []) := by
          intro l
          induction l with
          | nil => intro _; rw [nulAll]; exact ⟨fun _ => .nil, fun _ => rfl⟩
          | cons x l ih2 =>
            intro hh
            rw [nulAll, Bool.and_eq_true, hh x List.mem_cons_self, ih2 fun y hy => hh y (List.mem_cons_of_mem _ hy), MatL.of_cons]
            constructor
            · rintro ⟨a, b⟩; exact ⟨[], [], rfl, a, b⟩
            · rintro ⟨u, v, e, a, b⟩
              obtain ⟨rfl, rfl⟩ := List.append_eq_nil_iff.1 e.symm
              exact ⟨a, b⟩
        exact this r.l ih
      · rw [if_neg h4]
        by_cases h5 : r.k = 5
        · rw [if_pos h5, Mat.of5 h5]
          have : ∀ l : List Rx, (∀ x ∈ l, (nul x = true ↔ Mat x [])) → (nulAny l = true ↔ ∃ x ∈ l, Mat x []) := by
            intro l
            induction l with
            | nil => intro _; rw [nulAny]; simp
            | cons x l ih2 =>
              intro hh
              rw [nulAny, Bool.or_eq_true, hh x List.mem_cons_self, ih2 fun y hy => hh y (List.mem_cons_of_mem _ hy)]
              simp
          exact this r.l ih
        · rw [if_neg h5]
          refine ⟨(fun h => by cases h), fun h => ?_⟩
          by_cases h3 : r.k = 3
          · obtain ⟨b, e, _⟩ := (Mat.of3 h3).1 h
            cases e
          · exact absurd h (Mat.of_other (by omega))

/-! ### concatenation and union -/
theorem catLoop_mat : ∀ (l acc : List Rx) (w : List Nat), (match catLoop l acc with | .inl r => Mat r w | .inr ks => MatL ks w) ↔ MatL (acc ++ l) w
  | [], acc, w => by rw [catLoop, List.append_nil]
  | r :: l, acc, w => by
    rw [catLoop]
    by_cases h1 : r.k = 1
    · rw [if_pos h1]
      refine ⟨fun h => absurd h (Mat.of1 h1), fun h => ?_⟩
      obtain ⟨u, v, _, _, k⟩ := MatL.of_app.1 h
      obtain ⟨a, b, _, h, _⟩ := MatL.of_cons.1 k
      exact absurd h (Mat.of1 h1)
    · rw [if_neg h1]
      by_cases h2 : r.k = 2
      · rw [if_neg (by simpa using h2), catLoop_mat l acc w, MatL.of_app, MatL.of_app]
        constructor
        · rintro ⟨u, v, rfl, a, b⟩; exact ⟨u, v, rfl, a, MatL.of_cons.2 ⟨[], v, rfl, (Mat.of2 h2).2 rfl, b⟩⟩
        · rintro ⟨u, v, rfl, a, b⟩
          obtain ⟨c, d, rfl, e, f⟩ := MatL.of_cons.1 b
          rw [Mat.of2 h2] at e
          subst e
          exact ⟨u, d, rfl, a, f⟩
      · rw [if_pos h2, catLoop_mat l (acc ++ [r]) w, List.append_assoc]; rfl
theorem emptyR_mat {w : List Nat} : Mat emptyR w ↔ w = [] := Mat.of2 rfl
theorem noneR_mat {w : List Nat} : ¬ Mat noneR w := Mat.of1 rfl
theorem concat_mat (l : List Rx) (w : List Nat) : Mat (concatR l) w ↔ MatL l w := by
  have := catLoop_mat l [] w
  rw [List.nil_append] at this
  rw [← this]
  unfold concatR
  cases catLoop l [] with
  | inl r => rfl
  | inr ks =>
    show Mat (catEnd ks) w ↔ MatL ks w
    unfold catEnd
    split
    · rw [emptyR_mat, MatL.of_nil]
    · rw [MatL.of_one]
    · exact Mat.of4 rfl

def AnyM (l : List Rx) (w : List Nat) : Prop := ∃ x ∈ l, Mat x w
theorem mem_mat (r : Rx) (w : List Nat) : AnyM (mem r) w ↔ Mat r w := by
  unfold mem AnyM
  split
  · rename_i h; rw [Mat.of5 h]
  · simp
theorem uniAdd_mat (kids : List Rx) (k : Rx) (w : List Nat) : AnyM (uniAdd kids k) w ↔ AnyM kids w ∨ Mat k w := by
  unfold uniAdd
  split
  · rename_i h
    exact ⟨.inl, fun h' => h'.elim id fun h' => absurd h' (Mat.of1 h)⟩
  · split
    · rename_i h
      refine ⟨.inl, fun h' => h'.elim id fun h' => ?_⟩
      obtain ⟨o, ho, he⟩ := List.any_eq_true.1 h
      rw [eqR_iff] at he
      subst he
      exact ⟨o, ho, h'⟩
    · unfold AnyM
      constructor
      · rintro ⟨x, hx, hm⟩
        rcases List.mem_append.1 hx with hx | hx
        · exact .inl ⟨x, hx, hm⟩
        · rw [List.mem_singleton.1 hx] at hm; exact .inr hm
      · rintro (⟨x, hx, hm⟩ | hm)
        · exact ⟨x, List.mem_append_left _ hx, hm⟩
        · exact ⟨k, List.mem_append_right _ (List.mem_singleton.2 rfl), hm⟩
theorem uniAll_mat : ∀ (l kids : List Rx) (w : List Nat), AnyM (uniAll kids l) w ↔ AnyM kids w ∨ AnyM l w
  | [], kids, w => by rw [uniAll]; simp [AnyM]
  | k :: l, kids, w => by
    rw [uniAll, uniAll_mat l, uniAdd_mat]
    simp only [AnyM, List.mem_cons, exists_eq_or_imp, or_assoc]
theorem uniK_mat : ∀ (l kids : List Rx) (w : List Nat), AnyM (uniK kids l) w ↔ AnyM kids w ∨ AnyM l w
  | [], kids, w => by rw [uniK]; simp [AnyM]
  | r :: l, kids, w => by
    rw [uniK, uniK_mat l, uniAll_mat, mem_mat]
    simp only [AnyM, List.mem_cons, exists_eq_or_imp, or_assoc]
theorem union_mat (l : List Rx) (w : List Nat) : Mat (unionR l) w ↔ AnyM l w := by
  have := uniK_mat l [] w
  rw [show AnyM [] w ↔ False by simp [AnyM], false_or] at this
  rw [← this]
  unfold unionR
  generalize uniK [] l = ks
  unfold uniEnd
  split
  · simp [AnyM, noneR_mat]
  · simp [AnyM]
  · exact Mat.of5 rfl

/-! ### derivatives -/
theorem derCat_mat (b : Nat) : ∀ (l : List Rx), (∀ x ∈ l, ∀ w, Mat (der b x) w ↔ Mat x (b :: w)) → ∀ w, AnyM (derCat b l) w ↔ MatL l (b :: w)
  | [], _, w => by
    rw [derCat, MatL.of_nil]
    simp [AnyM]
  | r :: l, hh, w => by
    have hr := hh r List.mem_cons_self
    have ih := derCat_mat b l (fun x hx => hh x (List.mem_cons_of_mem _ hx)) w
    rw [derCat, MatL.of_cons]
    have e1 : AnyM (concatR (der b r :: l) :: (if nul r then derCat b l else [])) w ↔ MatL (der b r :: l) w ∨ (nul r = true ∧ MatL l (b :: w)) := by
      unfold AnyM
      simp only [List.mem_cons, exists_eq_or_imp, concat_mat]
      cases hn : nul r with
      | true => simp only [if_true, true_and]; rw [← ih]; rfl
      | false => simp
    rw [e1, MatL.of_cons]
    constructor
    · rintro (⟨u, v, rfl, h, k⟩ | ⟨h, k⟩)
      · exact ⟨b :: u, v, rfl, (hr u).1 h, k⟩
      · exact ⟨[], b :: w, rfl, (nul_iff r).1 h, k⟩
    · rintro ⟨u, v, e, h, k⟩
      cases u with
      | nil => simp at e; subst e; exact .inr ⟨(nul_iff r).2 h, k⟩
      | cons c u => simp at e; obtain ⟨rfl, rfl⟩ := e; exact .inl ⟨u, v, rfl, (hr u).2 h, k⟩

/-- A word of a repetition that is not empty begins with a word of the kid that is not empty. -/
theorem star_head {r x : Rx} {l : List Rx} (h : r.k = 6) (hl : r.l = x :: l) {b : Nat} {w : List Nat} : Mat r (b :: w) ↔ ∃ u v, w = u ++ v ∧ Mat x (b :: u) ∧ Mat r v := by
  constructor
  · intro hm
    generalize hw : b :: w = bw at hm
    obtain ⟨k, s, l'⟩ := r
    obtain rfl : k = 6 := h
    obtain rfl : l' = x :: l := hl
    -- by the number of bytes
    have key : ∀ (n : Nat) (bw : List Nat), bw.length ≤ n → ∀ (hm : Mat (.mk 6 s (x :: l)) bw) b w, b :: w = bw → ∃ u v, w = u ++ v ∧ Mat x (b :: u) ∧ Mat (.mk 6 s (x :: l)) v := by
      intro n
      induction n with
      | zero => intro bw hb hm b w e; rw [← e] at hb; simp at hb
      | succ n ih =>
        intro bw hb hm b w e
        have aux : ∀ (r : Rx) (z : List Nat), Mat r z → r = .mk 6 s (x :: l) → z = b :: w → ∃ u v, w = u ++ v ∧ Mat x (b :: u) ∧ Mat (.mk 6 s (x :: l)) v := by
          intro r z hz
          refine Mat.rec (motive_1 := fun r z _ => r = .mk 6 s (x :: l) → z = b :: w → ∃ u v, w = u ++ v ∧ Mat x (b :: u) ∧ Mat (.mk 6 s (x :: l)) v) (motive_2 := fun _ _ _ => True) ?_ ?_ ?_ ?_ ?_ ?_ trivial (fun _ _ _ _ => trivial) hz
          · intro s l e; cases e
          · intro s l b h e; cases e
          · intro s l w h _ e; cases e
          · intro s l w r hr h _ e; cases e
          · intro s l e e2; cases e2
          · intro s' l' x' u v h k _ ih2 e e2
            cases e
            cases u with
            | nil => exact ih2 rfl e2
            | cons c u => simp at e2; obtain ⟨rfl, rfl⟩ := e2; exact ⟨u, v, rfl, h, k⟩
        exact aux _ _ hm rfl e.symm
    exact key _ bw (Nat.le_refl _) hm b w hw
  · rintro ⟨u, v, rfl, h1, h2⟩
    rw [Mat.of6 h hl]
    exact .inr ⟨b :: u, v, rfl, h1, h2⟩

theorem der_mat (b : Nat) : ∀ (r : Rx) (w : List Nat), Mat (der b r) w ↔ Mat r (b :: w) := by
  intro r
  induction r using Rx.ind' with
  | h r ih =>
    intro w
    rw [der_eq]
    by_cases h3 : r.k = 3
    · rw [if_pos h3, Mat.of3 h3]
      split
      · rename_i hh
        rw [emptyR_mat]
        constructor
        · rintro rfl; exact ⟨b, rfl, hh⟩
        · rintro ⟨c, e, _⟩; simp at e; exact e.2
      · rename_i hh
        constructor
        · intro h; exact absurd h noneR_mat
        · rintro ⟨c, e, h⟩
          simp at e
          obtain ⟨rfl, rfl⟩ := e
          exact absurd h hh
    · rw [if_neg h3]
      by_cases h4 : r.k = 4
      · rw [if_pos h4, union_mat, derCat_mat b r.l ih, Mat.of4 h4]
      · rw [if_neg h4]
        by_cases h5 : r.k = 5
        · rw [if_pos h5, union_mat, derAll_map, Mat.of5 h5]
          constructor
          · rintro ⟨x, hx, hm⟩
            obtain ⟨y, hy, rfl⟩ := List.mem_map.1 hx
            exact ⟨y, hy, (ih y hy w).1 hm⟩
          · rintro ⟨y, hy, hm⟩
            exact ⟨der b y, List.mem_map.2 ⟨y, hy, rfl⟩, (ih y hy w).2 hm⟩
        · rw [if_neg h5]
          by_cases h6 : r.k = 6
          · rw [if_pos h6, derAll_map]
            cases hl : r.l with
            | nil =>
              refine ⟨fun h => absurd h noneR_mat, fun h => ?_⟩
              obtain ⟨k, s, l⟩ := r
              obtain rfl : k = 6 := h6
              obtain rfl : l = [] := hl
              cases h
            | cons x l =>
              show Mat (concatR [der b x, r]) w ↔ _
              rw [concat_mat, MatL.of_cons, star_head h6 hl]
              have hx := ih x (by rw [hl]; exact List.mem_cons_self)
              constructor
              · rintro ⟨u, v, rfl, h, k⟩; exact ⟨u, v, rfl, (hx u).1 h, MatL.of_one.1 k⟩
              · rintro ⟨u, v, rfl, h, k⟩; exact ⟨u, v, rfl, (hx u).2 h, MatL.of_one.2 k⟩
          · rw [if_neg h6]
            refine ⟨fun h => absurd h noneR_mat, fun h => ?_⟩
            by_cases h2 : r.k = 2
            · rw [Mat.of2 h2] at h; cases h
            · exact absurd h (Mat.of_other (by omega))
theorem derL_mat : ∀ (w : List Nat) (r : Rx) (v : List Nat), Mat (derL w r) v ↔ Mat r (w ++ v)
  | [], r, v => Iff.rfl
  | b :: w, r, v => by rw [derL, derL_mat w, der_mat]; rfl
/-- The program's matching, told by the definition. -/
theorem match_iff (w : List Nat) (r : Rx) : nul (derL w r) = true ↔ Mat r w := by rw [nul_iff, derL_mat, List.append_nil]
end Go.Dv

namespace Go.Dv
open Go

/-- All ends of a list. -/
def tls {α : Type} : List α → List (List α)
  | [] => [[]]
  | x :: l => (x :: l) :: tls l
theorem tls_len {α : Type} : ∀ l : List α, (tls l).length = l.length + 1
  | [] => rfl
  | x :: l => by simp [tls, tls_len l]
theorem tls_self {α : Type} : ∀ l : List α, l ∈ tls l
  | [] => by simp [tls]
  | x :: l => by simp [tls]
theorem tls_trans {α : Type} : ∀ {l m n : List α}, m ∈ tls l → n ∈ tls m → n ∈ tls l
  | [], m, n, h, k => by simp [tls] at h; subst h; exact k
  | x :: l, m, n, h, k => by
    rcases List.mem_cons.1 (show m ∈ (x :: l) :: tls l from h) with rfl | h
    · exact k
    · exact List.mem_cons_of_mem _ (tls_trans h k)
theorem tls_snoc {α : Type} {c : α} : ∀ {l m : List α}, m ∈ tls l → m ++ [c] ∈ tls (l ++ [c])
  | [], m, h => by simp [tls] at h; subst h; simp [tls]
  | x :: l, m, h => by
    rcases List.mem_cons.1 (show m ∈ (x :: l) :: tls l from h) with rfl | h
    · exact tls_self _
    · exact List.mem_cons_of_mem _ (tls_snoc h)
theorem tls_last {α : Type} {c : α} (l : List α) : [c] ∈ tls (l ++ [c]) := by
  have : ([] : List α) ∈ tls l := by
    induction l with
    | nil => simp [tls]
    | cons x l ih => exact List.mem_cons_of_mem _ ih
  exact tls_snoc this
theorem tls_mem {α : Type} {x : α} {t : List α} : ∀ {l : List α}, x :: t ∈ tls l → x ∈ l ∧ ∀ y ∈ t, y ∈ l
  | [], h => by simp [tls] at h
  | y :: l, h => by
    rcases List.mem_cons.1 (show x :: t ∈ (y :: l) :: tls l from h) with h | h
    · cases h; exact ⟨List.mem_cons_self, fun z hz => List.mem_cons_of_mem _ hz⟩
    · obtain ⟨h1, h2⟩ := tls_mem h; exact ⟨List.mem_cons_of_mem _ h1, fun z hz => List.mem_cons_of_mem _ (h2 z hz)⟩
theorem tls_tail {α : Type} {x : α} {t l : List α} (h : x :: t ∈ tls l) : t ∈ tls l := tls_trans h (by simp only [tls, List.mem_cons]; exact .inr (tls_self t))

/-! ### parts -/
mutual
def subs : Rx → List Rx
  | .mk k s l => .mk k s l :: subsL l
def subsL : List Rx → List Rx
  | [] => []
  | r :: l => subs r ++ subsL l
end
theorem subs_eq (r : Rx) : subs r = r :: subsL r.l := by cases r; rw [subs]; rfl
theorem subsL_mem {x : Rx} : ∀ {l : List Rx}, x ∈ subsL l ↔ ∃ y ∈ l, x ∈ subs y
  | [] => by rw [subsL]; simp
  | r :: l => by rw [subsL, List.mem_append, subsL_mem]; simp
theorem subs_self (r : Rx) : r ∈ subs r := by rw [subs_eq]; exact List.mem_cons_self
theorem subs_trans : ∀ (r : Rx) {m x : Rx}, m ∈ subs r → x ∈ subs m → x ∈ subs r := by
  intro r
  induction r using Rx.ind' with
  | h r ih =>
    intro m x hm hx
    rw [subs_eq] at hm ⊢
    rcases List.mem_cons.1 hm with rfl | hm
    · rw [subs_eq] at hx; exact hx
    · obtain ⟨y, hy, hm⟩ := subsL_mem.1 hm
      exact List.mem_cons_of_mem _ (subsL_mem.2 ⟨y, hy, ih y hy hm hx⟩)
theorem subs_kid {r m x : Rx} (hm : m ∈ subs r) (hx : x ∈ m.l) : x ∈ subs r :=
  subs_trans r hm (by rw [subs_eq]; exact List.mem_cons_of_mem _ (subsL_mem.2 ⟨x, hx, subs_self x⟩))
theorem subs_le : ∀ {l : List Rx} {x : Rx}, x ∈ l → (subs x).length ≤ (subsL l).length
  | y :: l, x, h => by
    rw [subsL, List.length_append]
    rcases List.mem_cons.1 h with rfl | h
    · omega
    · have := subs_le h; omega
/-- A kid of a part is smaller. -/
theorem subs_lt : ∀ (r : Rx) {m x : Rx}, m ∈ subs r → x ∈ m.l → (subs x).length < (subs r).length := by
  intro r
  induction r using Rx.ind' with
  | h r ih =>
    intro m x hm hx
    rw [subs_eq r] at hm ⊢
    rw [List.length_cons]
    rcases List.mem_cons.1 hm with rfl | hm
    · have := subs_le hx; omega
    · obtain ⟨y, hy, hm⟩ := subsL_mem.1 hm
      have := ih y hy hm hx
      have := subs_le hy
      omega
theorem kids_le : ∀ (r : Rx), (((subs r).map fun m => m.l.length).sum) + 1 = (subs r).length := by
  intro r
  induction r using Rx.ind' with
  | h r ih =>
    have key : ∀ l : List Rx, (∀ x ∈ l, (((subs x).map fun m => m.l.length).sum) + 1 = (subs x).length) → ((subsL l).map fun m => m.l.length).sum + l.length = (subsL l).length := by
      intro l
      induction l with
      | nil => intro _; rw [subsL]; rfl
      | cons x l ih2 =>
        intro hh
        rw [subsL, List.map_append, List.sum_append, List.length_append, List.length_cons]
        have h1 := hh x List.mem_cons_self
        have h2 := ih2 fun y hy => hh y (List.mem_cons_of_mem _ hy)
        omega
    have := key r.l ih
    rw [subs_eq, List.map_cons, List.sum_cons, List.length_cons]
    omega

/-! ### what derivatives are made of -/
def U (r0 : Rx) (v : List Nat) (x : Rx) : Prop :=
  x ∈ subs r0 ∨ x = emptyR ∨ (∃ m ∈ subs r0, ∃ k t, k :: t ∈ tls m.l ∧ ∃ u ∈ tls v, x = concatR (derL u k :: t)) ∨
    (∃ m ∈ subs r0, m.k = 6 ∧ ∃ a l, m.l = a :: l ∧ ∃ u ∈ tls v, x = concatR [derL u a, m])
def Gd (r0 : Rx) (v : List Nat) (x : Rx) : Prop := ∀ y ∈ mem x, y.k ≠ 1 → U r0 v y

theorem U.mono {r0 r1 x : Rx} {v v' : List Nat} (hr : r0 ∈ subs r1) (hv : v ∈ tls v') (h : U r0 v x) : U r1 v' x := by
  rcases h with h | h | ⟨m, hm, k, t, hk, u, hu, rfl⟩ | ⟨m, hm, h6, a, l, hl, u, hu, rfl⟩
  · exact .inl (subs_trans r1 hr h)
  · exact .inr (.inl h)
  · exact .inr (.inr (.inl ⟨m, subs_trans r1 hr hm, k, t, hk, u, tls_trans hv hu, rfl⟩))
  · exact .inr (.inr (.inr ⟨m, subs_trans r1 hr hm, h6, a, l, hl, u, tls_trans hv hu, rfl⟩))
theorem Gd.mono {r0 r1 x : Rx} {v v' : List Nat} (hr : r0 ∈ subs r1) (hv : v ∈ tls v') (h : Gd r0 v x) : Gd r1 v' x := fun y hy h1 => (h y hy h1).mono hr hv
theorem Gd.none {r0 x : Rx} {v : List Nat} (h : x.k = 1) : Gd r0 v x := by
  intro y hy h1
  unfold mem at hy
  rw [if_neg (by omega), List.mem_singleton] at hy
  subst hy; exact absurd h h1

/-- The expressions of which a concatenation is kept. -/
def keepF (l : List Rx) : List Rx := l.filter fun r => decide (r.k ≠ 2)
theorem catLoop_keep : ∀ (l acc : List Rx), catLoop l acc = match l.find? (fun r => decide (r.k = 1)) with | some r => .inl r | .none => .inr (acc ++ keepF l)
  | [], acc => by simp [catLoop, keepF]
  | r :: l, acc => by
    rw [catLoop]
    by_cases h1 : r.k = 1
    · rw [if_pos h1, List.find?_cons_of_pos (by simpa using h1)]
    · rw [if_neg h1, List.find?_cons_of_neg (by simpa using h1)]
      by_cases h2 : r.k = 2
      · rw [if_neg (by simpa using h2), catLoop_keep l acc]
        simp [keepF, h2]
      · rw [if_pos h2, catLoop_keep l (acc ++ [r])]
        simp [keepF, h2]
/-- The shapes of a concatenation. -/
theorem concat_cases (l : List Rx) : (concatR l).k = 1 ∨ ((∀ r ∈ l, r.k ≠ 1) ∧ (concatR l = emptyR ∨ concatR l ∈ keepF l ∨ concatR l = .mk 4 zeroW (keepF l))) := by
  have h := catLoop_keep l []
  rw [List.nil_append] at h
  cases hf : l.find? (fun r => decide (r.k = 1)) with
  | some r =>
    rw [hf] at h
    left
    unfold concatR
    rw [h]
    have := List.find?_some hf
    simpa using this
  | none =>
    rw [hf] at h
    right
    refine ⟨fun r hr => by have := List.find?_eq_none.1 hf r hr; simpa using this, ?_⟩
    unfold concatR
    rw [h]
    show catEnd (keepF l) = emptyR ∨ catEnd (keepF l) ∈ keepF l ∨ catEnd (keepF l) = .mk 4 zeroW (keepF l)
    generalize keepF l = ks
    unfold catEnd
    split
    · exact .inl rfl
    · exact .inr (.inl (by simp))
    · exact .inr (.inr rfl)
theorem keepF_mem {l : List Rx} {x : Rx} (h : x ∈ keepF l) : x ∈ l := (List.mem_filter.1 h).1
theorem keepF_idem (l : List Rx) : keepF (keepF l) = keepF l := by simp [keepF, List.filter_filter]
theorem find_keep (l : List Rx) : (keepF l).find? (fun r => decide (r.k = 1)) = l.find? (fun r => decide (r.k = 1)) := by
  induction l with
  | nil => rfl
  | cons r l ih =>
    by_cases h2 : r.k = 2
    · have : keepF (r :: l) = keepF l := by simp [keepF, h2]
      rw [this, ih, List.find?_cons_of_neg (by simp; omega)]
    · have : keepF (r :: l) = r :: keepF l := by simp [keepF, h2]
      rw [this]
      by_cases h1 : r.k = 1
      · rw [List.find?_cons_of_pos (by simpa using h1), List.find?_cons_of_pos (by simpa using h1)]
      · rw [List.find?_cons_of_neg (by simpa using h1), List.find?_cons_of_neg (by simpa using h1), ih]
/-- What is left out does not matter. -/
theorem concat_keep (z : Rx) (t : List Rx) : concatR (z :: keepF t) = concatR (z :: t) := by
  unfold concatR
  rw [catLoop_keep, catLoop_keep]
  have e1 : (z :: keepF t).find? (fun r => decide (r.k = 1)) = (z :: t).find? (fun r => decide (r.k = 1)) := by
    by_cases h1 : z.k = 1
    · rw [List.find?_cons_of_pos (by simpa using h1), List.find?_cons_of_pos (by simpa using h1)]
    · rw [List.find?_cons_of_neg (by simpa using h1), List.find?_cons_of_neg (by simpa using h1), find_keep]
  have e2 : keepF (z :: keepF t) = keepF (z :: t) := by
    by_cases h2 : z.k = 2
    · simp [keepF, h2, List.filter_filter]
    · simp [keepF, h2, List.filter_filter]
  rw [e1, e2]

theorem uniAdd_from {kids : List Rx} {k y : Rx} (h : y ∈ uniAdd kids k) : y ∈ kids ∨ (y = k ∧ k.k ≠ 1) := by
  unfold uniAdd at h
  split at h
  · exact .inl h
  · rename_i h1
    split at h
    · exact .inl h
    · rcases List.mem_append.1 h with h | h
      · exact .inl h
      · exact .inr ⟨List.mem_singleton.1 h, h1⟩
theorem uniAll_from : ∀ {l kids : List Rx} {y : Rx}, y ∈ uniAll kids l → y ∈ kids ∨ (y ∈ l ∧ y.k ≠ 1)
  | [], kids, y, h => .inl h
  | k :: l, kids, y, h => by
    rcases uniAll_from (l := l) (kids := uniAdd kids k) h with h | ⟨h, h1⟩
    · rcases uniAdd_from h with h | ⟨rfl, h1⟩
      · exact .inl h
      · exact .inr ⟨List.mem_cons_self, h1⟩
    · exact .inr ⟨List.mem_cons_of_mem _ h, h1⟩
theorem uniK_from : ∀ {l kids : List Rx} {y : Rx}, y ∈ uniK kids l → y ∈ kids ∨ ∃ x ∈ l, y ∈ mem x ∧ y.k ≠ 1
  | [], kids, y, h => .inl h
  | r :: l, kids, y, h => by
    rcases uniK_from (l := l) (kids := uniAll kids (mem r)) h with h | ⟨x, hx, hy, h1⟩
    · rcases uniAll_from h with h | ⟨h, h1⟩
      · exact .inl h
      · exact .inr ⟨r, List.mem_cons_self, h, h1⟩
    · exact .inr ⟨x, List.mem_cons_of_mem _ hx, hy, h1⟩
theorem uniAdd_nd {kids : List Rx} {k : Rx} (h : kids.Nodup) : (uniAdd kids k).Nodup := by
  unfold uniAdd
  split
  · exact h
  · split
    · exact h
    · rename_i hn
      refine List.nodup_append.2 ⟨h, by simp, fun a ha b hb => ?_⟩
      rw [List.mem_singleton.1 hb]
      rintro rfl
      exact hn (List.any_eq_true.2 ⟨_, ha, (eqR_iff _ _).2 rfl⟩)
theorem uniAll_nd : ∀ {l kids : List Rx}, kids.Nodup → (uniAll kids l).Nodup
  | [], kids, h => h
  | k :: l, kids, h => uniAll_nd (l := l) (uniAdd_nd h)
theorem uniK_nd : ∀ {l kids : List Rx}, kids.Nodup → (uniK kids l).Nodup
  | [], kids, h => h
  | r :: l, kids, h => uniK_nd (l := l) (uniAll_nd h)

section
variable {r0 : Rx}
/-- What the derivative of an expression is made of. -/
def Pt (r0 : Rx) (v : List Nat) (c : Nat) (x : Rx) : Prop := (x.k = 4 → ∀ z ∈ derCat c x.l, Gd r0 (v ++ [c]) z) ∧ (x.k = 5 → ∀ z ∈ derAll c x.l, Gd r0 (v ++ [c]) z) ∧ Gd r0 (v ++ [c]) (der c x)
theorem Pt.mono {r1 x : Rx} {v v' : List Nat} {c : Nat} (hr : r0 ∈ subs r1) (hv : v ∈ tls v') (h : Pt r0 v c x) : Pt r1 v' c x :=
  ⟨fun e z hz => (h.1 e z hz).mono hr (tls_snoc hv), fun e z hz => (h.2.1 e z hz).mono hr (tls_snoc hv), h.2.2.mono hr (tls_snoc hv)⟩
/-- What is known of the kids of parts. -/
def KidsGd (r0 : Rx) : Prop := ∀ m ∈ subs r0, ∀ k ∈ m.l, ∀ u, Gd r0 u (derL u k) ∧ ∀ c, Pt r0 u c (derL u k)

theorem U.closed (H : KidsGd r0) {v : List Nat} {x : Rx} (h : U r0 v x) : Gd r0 v x := by
  have sub : ∀ x ∈ subs r0, Gd r0 v x := by
    intro x hx y hy _
    unfold mem at hy
    split at hy
    · exact .inl (subs_kid hx hy)
    · rw [List.mem_singleton.1 hy]; exact .inl hx
  have one : ∀ x : Rx, x.k ≠ 5 → U r0 v x → Gd r0 v x := by
    intro x h5 hu y hy _
    unfold mem at hy
    rw [if_neg h5, List.mem_singleton] at hy
    subst hy; exact hu
  have h0 := h
  rcases h with h | rfl | ⟨m, hm, k, t, hk, u, hu, rfl⟩ | ⟨m, hm, h6, a, l, hl, u, hu, rfl⟩
  · exact sub x h
  · exact one _ (by decide) h0
  · obtain ⟨k1, k2⟩ := tls_mem hk
    rcases concat_cases (derL u k :: t) with e | ⟨_, e | e | e⟩
    · exact .none e
    · rw [e]; exact one _ (by decide) (.inr (.inl rfl))
    · rcases List.mem_cons.1 (keepF_mem e) with e | e
      · rw [e]; exact (H m hm k k1 u).1.mono (subs_self r0) hu
      · exact sub _ (subs_kid hm (k2 _ e))
    · rw [e] at h0 ⊢; exact one _ (by show (4 : Int) ≠ 5; decide) h0
  · have ha : a ∈ m.l := by rw [hl]; exact List.mem_cons_self
    rcases concat_cases [derL u a, m] with e | ⟨_, e | e | e⟩
    · exact .none e
    · rw [e]; exact one _ (by decide) (.inr (.inl rfl))
    · rcases List.mem_cons.1 (keepF_mem e) with e | e
      · rw [e]; exact (H m hm a ha u).1.mono (subs_self r0) hu
      · rw [List.mem_singleton.1 e]; exact sub _ hm
    · rw [e] at h0 ⊢; exact one _ (by show (4 : Int) ≠ 5; decide) h0

theorem union_gd (H : KidsGd r0) {v : List Nat} {L : List Rx} (h : ∀ x ∈ L, Gd r0 v x) : Gd r0 v (unionR L) := by
  have hk : ∀ y ∈ uniK [] L, U r0 v y := by
    intro y hy
    rcases uniK_from hy with h0 | ⟨x, hx, h1, h2⟩
    · simp at h0
    · exact h x hx y h1 h2
  unfold unionR
  generalize uniK [] L = ks at hk
  unfold uniEnd
  split
  · exact .none rfl
  · exact (hk _ (by simp)).closed H
  · intro y hy _
    exact hk y hy

theorem der_k4 {c : Nat} {x : Rx} (h : x.k = 4) : der c x = unionR (derCat c x.l) := by
  rw [der_eq, if_neg (by omega), if_pos h]
theorem der_k1 {c : Nat} {x : Rx} (h : x.k = 1 ∨ x.k = 2) : (der c x).k = 1 := by
  rw [der_eq, if_neg (by omega), if_neg (by omega), if_neg (by omega), if_neg (by omega)]; rfl
theorem Pt.plain {v : List Nat} {c : Nat} {x : Rx} (h : x.k = 1 ∨ x.k = 2) : Pt r0 v c x :=
  ⟨fun e => by omega, fun e => by omega, .none (der_k1 h)⟩

/-- The parts of a derivative's unions. -/
theorem step_parts (H : KidsGd r0) {v : List Nat} (c : Nat) {x : Rx} (h : U r0 v x) : Pt r0 v c x := by
  have hc : [c] ∈ tls (v ++ [c]) := tls_last v
  -- of a list that is an end of a part's kids
  have tail : ∀ m ∈ subs r0, ∀ (t : List Rx), t ∈ tls m.l → ∀ z ∈ derCat c (keepF t), Gd r0 (v ++ [c]) z := by
    intro m hm t
    induction t with
    | nil => intro _ z hz; rw [show keepF [] = [] from rfl, derCat] at hz; simp at hz
    | cons k t ih =>
      intro ht z hz
      have ih' := ih (tls_tail ht)
      by_cases h2 : k.k = 2
      · rw [show keepF (k :: t) = keepF t by simp [keepF, h2]] at hz
        exact ih' z hz
      · rw [show keepF (k :: t) = k :: keepF t by simp [keepF, h2], derCat] at hz
        rcases List.mem_cons.1 hz with rfl | hz
        · rw [concat_keep]
          exact U.closed H (.inr (.inr (.inl ⟨m, hm, k, t, ht, [c], hc, rfl⟩)))
        · split at hz
          · exact ih' z hz
          · simp at hz
  have tail0 : ∀ m ∈ subs r0, ∀ (t : List Rx), t ∈ tls m.l → ∀ z ∈ derCat c t, Gd r0 (v ++ [c]) z := by
    intro m hm t
    induction t with
    | nil => intro _ z hz; rw [derCat] at hz; simp at hz
    | cons k t ih =>
      intro ht z hz
      rw [derCat] at hz
      rcases List.mem_cons.1 hz with rfl | hz
      · exact U.closed H (.inr (.inr (.inl ⟨m, hm, k, t, ht, [c], hc, rfl⟩)))
      · split at hz
        · exact ih (tls_tail ht) z hz
        · simp at hz
  have sub : ∀ x ∈ subs r0, Pt r0 v c x := by
    intro x hx
    have p4 := tail0 x hx x.l (tls_self _)
    have p5 : ∀ z ∈ derAll c x.l, Gd r0 (v ++ [c]) z := fun z hz => by
      rw [derAll_map] at hz
      obtain ⟨y, hy, rfl⟩ := List.mem_map.1 hz
      exact (H x hx y hy [c]).1.mono (subs_self r0) hc
    refine ⟨fun _ => p4, fun _ => p5, ?_⟩
    rw [der_eq]
    split
    · split
      · exact U.closed H (.inr (.inl rfl))
      · exact .none rfl
    · split
      · exact union_gd H p4
      · split
        · exact union_gd H p5
        · split
          · rename_i h6
            rw [derAll_map]
            cases hl : x.l with
            | nil => exact .none rfl
            | cons a l => exact U.closed H (.inr (.inr (.inr ⟨x, hx, h6, a, l, hl, [c], hc, rfl⟩)))
          · exact .none rfl
  rcases h with h | rfl | ⟨m, hm, k, t, hk, u, hu, rfl⟩ | ⟨m, hm, h6, a, l, hl, u, hu, rfl⟩
  · exact sub x h
  · exact .plain (.inr rfl)
  · obtain ⟨k1, k2⟩ := tls_mem hk
    have huc := tls_snoc (c := c) hu
    rcases concat_cases (derL u k :: t) with e | ⟨_, e | e | e⟩
    · exact .plain (.inl e)
    · rw [e]; exact .plain (.inr rfl)
    · rcases List.mem_cons.1 (keepF_mem e) with e | e
      · rw [e]; exact ((H m hm k k1 u).2 c).mono (subs_self r0) hu
      · exact sub _ (subs_kid hm (k2 _ e))
    · rw [e]
      have p4 : ∀ z ∈ derCat c (keepF (derL u k :: t)), Gd r0 (v ++ [c]) z := by
        intro z hz
        by_cases h2 : (derL u k).k = 2
        · rw [show keepF (derL u k :: t) = keepF t by simp [keepF, h2]] at hz
          exact tail m hm t (tls_tail hk) z hz
        · rw [show keepF (derL u k :: t) = derL u k :: keepF t by simp [keepF, h2], derCat] at hz
          rcases List.mem_cons.1 hz with rfl | hz
          · rw [concat_keep, ← derL_snoc]
            exact U.closed H (.inr (.inr (.inl ⟨m, hm, k, t, hk, u ++ [c], huc, rfl⟩)))
          · split at hz
            · exact tail m hm t (tls_tail hk) z hz
            · simp at hz
      refine ⟨fun _ => p4, fun h => absurd h (by show ¬ (4 : Int) = 5; decide), ?_⟩
      rw [der_k4 (x := .mk 4 zeroW _) rfl]
      exact union_gd H p4
  · have ha : a ∈ m.l := by rw [hl]; exact List.mem_cons_self
    have huc := tls_snoc (c := c) hu
    rcases concat_cases [derL u a, m] with e | ⟨_, e | e | e⟩
    · exact .plain (.inl e)
    · rw [e]; exact .plain (.inr rfl)
    · rcases List.mem_cons.1 (keepF_mem e) with e | e
      · rw [e]; exact ((H m hm a ha u).2 c).mono (subs_self r0) hu
      · rw [List.mem_singleton.1 e]; exact sub _ hm
    · rw [e]
      have hm2 : m.k ≠ 2 := by omega
      have gm : Gd r0 (v ++ [c]) (concatR [der c m]) := by
        rcases concat_cases [der c m] with e | ⟨_, e | e | e⟩
        · exact .none e
        · rw [e]; exact U.closed H (.inr (.inl rfl))
        · rw [List.mem_singleton.1 (keepF_mem e)]; exact (sub m hm).2.2
        · -- one expression alone is no concatenation
          exfalso
          unfold concatR at e
          rw [catLoop_keep] at e
          cases hf : [der c m].find? (fun r => decide (r.k = 1)) with
          | some r =>
            rw [hf] at e
            have h1 := List.find?_some hf
            have h2 : r = .mk 4 zeroW (keepF [der c m]) := e
            rw [h2] at h1
            simp [Rx.k] at h1
          | none =>
            rw [hf] at e
            by_cases h2 : (der c m).k = 2
            · have e0 : keepF [der c m] = [] := by simp [keepF, h2]
              rw [e0] at e
              have : emptyR = .mk 4 zeroW [] := e
              cases this
            · have e0 : keepF [der c m] = [der c m] := by simp [keepF, h2]
              rw [e0] at e
              have e' : der c m = .mk 4 zeroW [der c m] := e
              have := congrArg (fun r : Rx => SizeOf.sizeOf r) e'
              simp at this
              omega
      have p4 : ∀ z ∈ derCat c (keepF [derL u a, m]), Gd r0 (v ++ [c]) z := by
        intro z hz
        have hm' : ∀ z ∈ derCat c [m], Gd r0 (v ++ [c]) z := by
          intro z hz
          rw [derCat] at hz
          rcases List.mem_cons.1 hz with rfl | hz
          · exact gm
          · split at hz
            · rw [derCat] at hz; simp at hz
            · simp at hz
        by_cases h2 : (derL u a).k = 2
        · rw [show keepF [derL u a, m] = [m] by simp [keepF, h2, hm2]] at hz
          exact hm' z hz
        · rw [show keepF [derL u a, m] = [derL u a, m] by simp [keepF, h2, hm2], derCat] at hz
          rcases List.mem_cons.1 hz with rfl | hz
          · rw [← derL_snoc]
            exact U.closed H (.inr (.inr (.inr ⟨m, hm, h6, a, l, hl, u ++ [c], huc, rfl⟩)))
          · split at hz
            · exact hm' z hz
            · simp at hz
      refine ⟨fun _ => p4, fun h => absurd h (by show ¬ (4 : Int) = 5; decide), ?_⟩
      rw [der_k4 (x := .mk 4 zeroW _) rfl]
      exact union_gd H p4
end

theorem snoc_of {α : Type} : ∀ {v : List α}, v ≠ [] → ∃ w c, v = w ++ [c]
  | v, h => ⟨v.dropLast, v.getLast h, (List.dropLast_concat_getLast h).symm⟩

theorem main_gd : ∀ (n : Nat) (r0 : Rx), (subs r0).length ≤ n → ∀ v, Gd r0 v (derL v r0) ∧ ∀ c, Pt r0 v c (derL v r0) := by
  intro n
  induction n with
  | zero => intro r0 h; rw [subs_eq] at h; simp at h
  | succ n ih =>
    intro r0 hn
    have H : KidsGd r0 := by
      intro m hm k hk u
      have hlt := subs_lt r0 hm hk
      obtain ⟨h1, h2⟩ := ih k (by omega) u
      exact ⟨h1.mono (subs_kid hm hk) (tls_self u), fun c => (h2 c).mono (subs_kid hm hk) (tls_self u)⟩
    -- out of what is good
    have step : ∀ v x, Gd r0 v x → ∀ c, Pt r0 v c x := by
      intro v x hx c
      by_cases h5 : x.k = 5
      · have p5 : ∀ z ∈ derAll c x.l, Gd r0 (v ++ [c]) z := by
          intro z hz
          rw [derAll_map] at hz
          obtain ⟨y, hy, rfl⟩ := List.mem_map.1 hz
          by_cases h1 : y.k = 1
          · exact .none (der_k1 (.inl h1))
          · exact (step_parts H c (hx y (by unfold mem; rw [if_pos h5]; exact hy) h1)).2.2
        refine ⟨fun h => by omega, fun _ => p5, ?_⟩
        rw [der_eq, if_neg (by omega), if_neg (by omega), if_pos h5]
        exact union_gd H p5
      · by_cases h1 : x.k = 1
        · exact .plain (.inl h1)
        · exact step_parts H c (hx x (by unfold mem; rw [if_neg h5]; exact List.mem_singleton.2 rfl) h1)
    have all : ∀ (k : Nat) (v : List Nat), v.length = k → Gd r0 v (derL v r0) := by
      intro k
      induction k with
      | zero =>
        intro v hv
        rw [List.eq_nil_of_length_eq_zero hv]
        exact U.closed H (.inl (subs_self r0))
      | succ k ihk =>
        intro v hv
        obtain ⟨w, c, rfl⟩ := snoc_of (v := v) (by intro e; rw [e] at hv; simp at hv)
        rw [derL_snoc]
        exact (step w _ (ihk w (by simpa using hv)) c).2.2
    intro v
    exact ⟨all _ v rfl, fun c => step v _ (all _ v rfl) c⟩
theorem kidsGd (r0 : Rx) : KidsGd r0 := by
  intro m hm k hk u
  obtain ⟨h1, h2⟩ := main_gd _ k (Nat.le_refl _) u
  exact ⟨h1.mono (subs_kid hm hk) (tls_self u), fun c => (h2 c).mono (subs_kid hm hk) (tls_self u)⟩
theorem allGd (r0 : Rx) (v : List Nat) : Gd r0 v (derL v r0) ∧ ∀ c, Pt r0 v c (derL v r0) := main_gd _ r0 (Nat.le_refl _) v

/-! ### how many there are -/
def UL (r0 : Rx) (v : List Nat) : List Rx :=
  emptyR :: (subs r0 ++ (subs r0).flatMap fun m => ((tls m.l).flatMap fun t => match t with | [] => [] | k :: t => (tls v).map fun u => concatR (derL u k :: t)) ++
    (match m.l with | [] => [] | a :: _ => (tls v).map fun u => concatR [derL u a, m]))
theorem U_UL {r0 x : Rx} {v : List Nat} (h : U r0 v x) : x ∈ UL r0 v := by
  unfold UL
  rcases h with h | rfl | ⟨m, hm, k, t, hk, u, hu, rfl⟩ | ⟨m, hm, h6, a, l, hl, u, hu, rfl⟩
  · exact List.mem_cons_of_mem _ (List.mem_append_left _ h)
  · exact List.mem_cons_self
  · refine List.mem_cons_of_mem _ (List.mem_append_right _ (List.mem_flatMap.2 ⟨m, hm, List.mem_append_left _ (List.mem_flatMap.2 ⟨k :: t, hk, List.mem_map.2 ⟨u, hu, rfl⟩⟩)⟩))
  · refine List.mem_cons_of_mem _ (List.mem_append_right _ (List.mem_flatMap.2 ⟨m, hm, List.mem_append_right _ ?_⟩))
    rw [hl]
    exact List.mem_map.2 ⟨u, hu, rfl⟩
theorem flat_le {α β : Type} (f : α → List β) (n : α → Nat) : ∀ (l : List α), (∀ x ∈ l, (f x).length ≤ n x) → (l.flatMap f).length ≤ (l.map n).sum
  | [], _ => Nat.le_refl _
  | x :: l, h => by
    rw [List.flatMap_cons, List.length_append, List.map_cons, List.sum_cons]
    have := h x List.mem_cons_self
    have := flat_le f n l fun y hy => h y (List.mem_cons_of_mem _ hy)
    omega
theorem sum_const {α : Type} (c : Nat) : ∀ l : List α, (l.map fun _ => c).sum = l.length * c
  | [] => by simp
  | x :: l => by rw [List.map_cons, List.sum_cons, sum_const c l, List.length_cons, Nat.succ_mul]; omega
theorem sum_lin (a b : Nat) : ∀ l : List Rx, (l.map fun m => (m.l.length + 1) * a + b).sum = ((l.map fun m => m.l.length).sum + l.length) * a + l.length * b
  | [] => by simp
  | x :: l => by
    rw [List.map_cons, List.sum_cons, sum_lin a b l, List.map_cons, List.sum_cons, List.length_cons]
    simp only [Nat.add_mul, Nat.succ_mul, Nat.one_mul]
    omega
theorem UL_len (r0 : Rx) (v : List Nat) : (UL r0 v).length ≤ 1 + (subs r0).length + 3 * (subs r0).length * (v.length + 1) := by
  unfold UL
  rw [List.length_cons, List.length_append]
  have h1 : ((subs r0).flatMap fun m => ((tls m.l).flatMap fun t => match t with | [] => [] | k :: t => (tls v).map fun u => concatR (derL u k :: t)) ++
    (match m.l with | [] => [] | a :: _ => (tls v).map fun u => concatR [derL u a, m])).length ≤ ((subs r0).map fun m => (m.l.length + 1) * (v.length + 1) + (v.length + 1)).sum := by
    refine flat_le _ _ _ fun m hm => ?_
    rw [List.length_append]
    have a1 : ((tls m.l).flatMap fun t => match t with | [] => ([] : List Rx) | k :: t => (tls v).map fun u => concatR (derL u k :: t)).length ≤ ((tls m.l).map fun _ => v.length + 1).sum := by
      refine flat_le _ _ _ fun t ht => ?_
      split
      · simp
      · rw [List.length_map, tls_len]; exact Nat.le_refl _
    rw [sum_const, tls_len] at a1
    have a2 : (match m.l with | [] => ([] : List Rx) | a :: _ => (tls v).map fun u => concatR [derL u a, m]).length ≤ v.length + 1 := by
      split
      · simp
      · rw [List.length_map, tls_len]; exact Nat.le_refl _
    omega
  rw [sum_lin] at h1
  have hk := kids_le r0
  have hs : ((subs r0).map fun m => m.l.length).sum + (subs r0).length ≤ 2 * (subs r0).length := by omega
  have h2 := Nat.mul_le_mul_right (v.length + 1) hs
  have e3 : 3 * (subs r0).length * (v.length + 1) = 2 * (subs r0).length * (v.length + 1) + (subs r0).length * (v.length + 1) := by rw [← Nat.add_mul]; congr 1; omega
  omega
theorem nd_le : ∀ {l m : List Rx}, l.Nodup → (∀ x ∈ l, x ∈ m) → l.length ≤ m.length
  | [], m, _, _ => Nat.zero_le _
  | x :: l, m, hn, hs => by
    obtain ⟨h1, h2⟩ := List.nodup_cons.1 hn
    obtain ⟨a, b, rfl⟩ := List.append_of_mem (hs x List.mem_cons_self)
    have := nd_le (l := l) (m := a ++ b) h2 fun y hy => by
      have := hs y (List.mem_cons_of_mem _ hy)
      rcases List.mem_append.1 this with h | h
      · exact List.mem_append_left _ h
      · rcases List.mem_cons.1 h with rfl | h
        · exact absurd hy h1
        · exact List.mem_append_right _ h
    simp at this ⊢
    omega
theorem wide_le {r0 : Rx} {v : List Nat} {L : List Rx} (h : ∀ z ∈ L, Gd r0 v z) : (uniK [] L).length ≤ 1 + (subs r0).length + 3 * (subs r0).length * (v.length + 1) := by
  refine Nat.le_trans (nd_le (uniK_nd (l := L) (kids := []) List.nodup_nil) (m := UL r0 v) fun x hx => ?_) (UL_len r0 v)
  rcases uniK_from hx with h0 | ⟨y, hy, h1, h2⟩
  · simp at h0
  · exact U_UL (h y hy x h1 h2)

def NB (S n : Nat) : Nat := 1 + S + 3 * S * (n + 2)
theorem NB_mono {S S' n n' : Nat} (h1 : S ≤ S') (h2 : n ≤ n') : NB S n ≤ NB S' n' := by
  unfold NB
  have := Nat.mul_le_mul (Nat.mul_le_mul_left 3 h1) (Nat.add_le_add_right h2 2)
  omega

theorem okD_main : ∀ (n : Nat) (r0 : Rx), (subs r0).length ≤ n → ∀ (v : List Nat) (c B : Nat), NB (subs r0).length v.length ≤ B → okD B c (derL v r0) := by
  intro n
  induction n with
  | zero => intro r0 h; rw [subs_eq] at h; simp at h
  | succ n ih =>
    intro r0 hn v c B hB
    have H := kidsGd r0
    -- the kids of parts
    have kid : ∀ m ∈ subs r0, ∀ k ∈ m.l, ∀ u ∈ tls v, okD B c (derL u k) := by
      intro m hm k hk u hu
      have hlt := subs_lt r0 hm hk
      have hul : u.length ≤ v.length := by
        clear hB
        induction v with
        | nil => simp [tls] at hu; subst hu; exact Nat.le_refl _
        | cons x v ihv =>
          rcases List.mem_cons.1 (show u ∈ (x :: v) :: tls v from hu) with rfl | hu
          · exact Nat.le_refl _
          · have := ihv hu; simp; omega
      exact ih k (by omega) u c B (Nat.le_trans (NB_mono (by omega) hul) hB)
    have nilv : ([] : List Nat) ∈ tls v := by
      clear hB kid
      induction v with
      | nil => simp [tls]
      | cons x v ihv => exact List.mem_cons_of_mem _ ihv
    have wide : ∀ L : List Rx, (∀ z ∈ L, Gd r0 (v ++ [c]) z) → (uniK [] L).length ≤ B := fun L hL => by
      have := wide_le hL
      simp only [List.length_append, List.length_cons, List.length_nil] at this
      unfold NB at hB
      have e : v.length + (0 + 1) + 1 = v.length + 2 := by omega
      rw [e] at this
      omega
    have plain : ∀ x : Rx, x.k = 1 ∨ x.k = 2 → okD B c x := fun x h => .mk (fun e => by omega) (fun e => by omega) (fun e => by omega)
    have sub : ∀ x ∈ subs r0, okD B c x := by
      intro x hx
      have hp := step_parts H (v := v) c (.inl hx)
      exact .mk (fun _ y hy => kid x hx y hy [] nilv) (fun h => wide _ (hp.1 h)) (fun h => wide _ (hp.2.1 h))
    have ofU : ∀ x, U r0 v x → okD B c x := by
      intro x hx
      have hp := step_parts H c hx
      rcases hx with h | rfl | ⟨m, hm, k, t, hk, u, hu, rfl⟩ | ⟨m, hm, h6, a, l, hl, u, hu, rfl⟩
      · exact sub x h
      · exact plain _ (.inr rfl)
      · obtain ⟨k1, k2⟩ := tls_mem hk
        rcases concat_cases (derL u k :: t) with e | ⟨_, e | e | e⟩
        · exact plain _ (.inl e)
        · rw [e]; exact plain _ (.inr rfl)
        · rcases List.mem_cons.1 (keepF_mem e) with e | e
          · rw [e]; exact kid m hm k k1 u hu
          · exact sub _ (subs_kid hm (k2 _ e))
        · rw [e] at hp ⊢
          refine .mk (fun _ y hy => ?_) (fun h => wide _ (hp.1 h)) (fun h => wide _ (hp.2.1 h))
          have hy : y ∈ keepF (derL u k :: t) := hy
          rcases List.mem_cons.1 (keepF_mem hy) with rfl | hy
          · exact kid m hm k k1 u hu
          · exact sub _ (subs_kid hm (k2 _ hy))
      · have ha : a ∈ m.l := by rw [hl]; exact List.mem_cons_self
        rcases concat_cases [derL u a, m] with e | ⟨_, e | e | e⟩
        · exact plain _ (.inl e)
        · rw [e]; exact plain _ (.inr rfl)
        · rcases List.mem_cons.1 (keepF_mem e) with e | e
          · rw [e]; exact kid m hm a ha u hu
          · rw [List.mem_singleton.1 e]; exact sub _ hm
        · rw [e] at hp ⊢
          refine .mk (fun _ y hy => ?_) (fun h => wide _ (hp.1 h)) (fun h => wide _ (hp.2.1 h))
          have hy : y ∈ keepF [derL u a, m] := hy
          rcases List.mem_cons.1 (keepF_mem hy) with rfl | hy
          · exact kid m hm a ha u hu
          · rw [List.mem_singleton.1 hy]; exact sub _ hm
    obtain ⟨hg, hp⟩ := allGd r0 v
    have hp := hp c
    generalize derL v r0 = x at hg hp
    by_cases h5 : x.k = 5
    · refine .mk (fun _ y hy => ?_) (fun h => by omega) (fun h => wide _ (hp.2.1 h))
      by_cases h1 : y.k = 1
      · exact plain _ (.inl h1)
      · exact ofU y (hg y (by unfold mem; rw [if_pos h5]; exact hy) h1)
    · by_cases h1 : x.k = 1
      · exact plain _ (.inl h1)
      · exact ofU x (hg x (by unfold mem; rw [if_neg h5]; exact List.mem_singleton.2 rfl) h1)

/-- No derivative on a string's way is too wide. -/
theorem okW_of {r : Rx} {w : List Nat} {B : Nat} (h : NB (subs r).length w.length ≤ B) : okW B w r := by
  intro i c hi
  refine okD_main _ r (Nat.le_refl _) (w.take i) c B (Nat.le_trans (NB_mono (Nat.le_refl _) ?_) h)
  rw [List.length_take]; omega
end Go.Dv

namespace Go.Dv
open Go

def slc (w : List Nat) (i j : Nat) : List Nat := (w.drop i).take (j - i)
theorem slc_len {w : List Nat} {i j : Nat} (h : i ≤ j) (hj : j ≤ w.length) : (slc w i j).length = j - i := by
  unfold slc; rw [List.length_take, List.length_drop]; omega
theorem slc_self (w : List Nat) (i : Nat) : slc w i i = [] := by unfold slc; rw [Nat.sub_self, List.take_zero]
theorem slc_app {w : List Nat} {i m j : Nat} (h1 : i ≤ m) (h2 : m ≤ j) : slc w i m ++ slc w m j = slc w i j := by
  unfold slc
  have e : j - i = (m - i) + (j - m) := by omega
  rw [e, List.take_add, List.drop_drop, show i + (m - i) = m by omega]
theorem slc_split {w u v : List Nat} {i j : Nat} (h : i ≤ j) (hj : j ≤ w.length) (e : slc w i j = u ++ v) : u = slc w i (i + u.length) ∧ v = slc w (i + u.length) j ∧ i + u.length ≤ j := by
  have hl := slc_len h hj
  rw [e, List.length_append] at hl
  have h1 : i + u.length ≤ j := by omega
  have h2 := slc_app (w := w) (i := i) (m := i + u.length) (j := j) (by omega) h1
  rw [e] at h2
  have h3 : (slc w i (i + u.length)).length = u.length := by rw [slc_len (by omega) (by omega)]; omega
  have := List.append_inj h2 h3
  exact ⟨this.1.symm, this.2.symm, h1⟩
theorem slc_one {w : List Nat} {i : Nat} (h : i < w.length) : slc w i (i + 1) = [w.getD i 0] := by
  unfold slc
  rw [show i + 1 - i = 1 by omega, List.drop_eq_getElem_cons h, List.take_succ_cons, List.take_zero, List.getD_eq_getElem?_getD, List.getElem?_eq_getElem h]; rfl
theorem slc_all (w : List Nat) : slc w 0 w.length = w := by unfold slc; rw [Nat.sub_zero, List.drop_zero, List.take_length]

/-- The positions at which a match ends that begins at a marked position. -/
def Sem (P : List Nat → Prop) (w : List Nat) (fr out : List Bool) : Prop :=
  out.length = w.length + 1 ∧ ∀ j, j ≤ w.length → (out.getD j false = true ↔ ∃ i, i ≤ j ∧ fr.getD i false = true ∧ P (slc w i j))
open Classical in
noncomputable def semOut (P : List Nat → Prop) (w : List Nat) (fr : List Bool) : List Bool :=
  (List.range (w.length + 1)).map fun j => decide (∃ i, i ≤ j ∧ fr.getD i false = true ∧ P (slc w i j))
theorem semOut_len (P : List Nat → Prop) (w : List Nat) (fr : List Bool) : (semOut P w fr).length = w.length + 1 := by simp [semOut]
theorem sem_out (P : List Nat → Prop) (w : List Nat) (fr : List Bool) : Sem P w fr (semOut P w fr) := by
  refine ⟨semOut_len P w fr, fun j hj => ?_⟩
  unfold semOut
  rw [List.getD_eq_getElem?_getD, List.getElem?_map, List.getElem?_range (by omega)]
  simp
theorem Sem.eq {P : List Nat → Prop} {w : List Nat} {fr o : List Bool} (h : Sem P w fr o) : o = semOut P w fr := by
  have k := sem_out P w fr
  apply List.ext_getElem (h.1.trans k.1.symm)
  intro j h1 h2
  have hj : j ≤ w.length := by have := h.1; omega
  have e := (h.2 j hj).trans (k.2 j hj).symm
  rw [List.getD_eq_getElem?_getD, List.getD_eq_getElem?_getD, List.getElem?_eq_getElem h1, List.getElem?_eq_getElem h2] at e
  simp only [Option.getD_some] at e
  exact Bool.eq_iff_iff.2 e
theorem Sem.congr {P Q : List Nat → Prop} {w : List Nat} {fr o : List Bool} (h : Sem P w fr o) (e : ∀ z, P z ↔ Q z) : Sem Q w fr o :=
  ⟨h.1, fun j hj => by rw [h.2 j hj]; simp only [e]⟩

theorem sem_id {w : List Nat} {fr : List Bool} (hl : fr.length = w.length + 1) : Sem (· = []) w fr fr := by
  refine ⟨hl, fun j hj => ⟨fun h => ⟨j, Nat.le_refl _, h, slc_self w j⟩, ?_⟩⟩
  rintro ⟨i, hi, hf, e⟩
  have := slc_len hi hj
  rw [e] at this
  have : i = j := by simp at this; omega
  subst this; exact hf
theorem sem_comp {P Q : List Nat → Prop} {w : List Nat} {fr mid out : List Bool} (h1 : Sem P w fr mid) (h2 : Sem Q w mid out) : Sem (fun z => ∃ u v, z = u ++ v ∧ P u ∧ Q v) w fr out := by
  refine ⟨h2.1, fun j hj => ?_⟩
  rw [h2.2 j hj]
  constructor
  · rintro ⟨m, hm, hmid, hq⟩
    obtain ⟨i, hi, hf, hp⟩ := (h1.2 m (by omega)).1 hmid
    exact ⟨i, by omega, hf, slc w i m, slc w m j, (slc_app hi hm).symm, hp, hq⟩
  · rintro ⟨i, hi, hf, u, v, e, hp, hq⟩
    obtain ⟨e1, e2, h3⟩ := slc_split hi hj e
    refine ⟨i + u.length, h3, (h1.2 _ (by omega)).2 ⟨i, by omega, hf, ?_⟩, ?_⟩
    · rw [← e1]; exact hp
    · rw [← e2]; exact hq
theorem sem_zero {P : List Nat → Prop} {w : List Nat} {fr : List Bool} (h : ∀ z, ¬ P z) : Sem P w fr (List.replicate (w.length + 1) false) := by
  refine ⟨by simp, fun j hj => ?_⟩
  rw [List.getD_eq_getElem?_getD, List.getElem?_replicate, if_pos (by omega)]
  simp only [Option.getD_some, Bool.false_eq_true, false_iff]
  rintro ⟨i, _, _, h2⟩
  exact h _ h2
theorem sem_or {P Q : List Nat → Prop} {w : List Nat} {fr a b o : List Bool} (h1 : Sem P w fr a) (h2 : Sem Q w fr b) (hl : o.length = w.length + 1) (ho : ∀ j, j ≤ w.length → o.getD j false = (a.getD j false || b.getD j false)) : Sem (fun z => P z ∨ Q z) w fr o := by
  refine ⟨hl, fun j hj => ?_⟩
  rw [ho j hj, Bool.or_eq_true, h1.2 j hj, h2.2 j hj]
  constructor
  · rintro (⟨i, a1, a2, a3⟩ | ⟨i, a1, a2, a3⟩)
    · exact ⟨i, a1, a2, .inl a3⟩
    · exact ⟨i, a1, a2, .inr a3⟩
  · rintro ⟨i, a1, a2, a3 | a3⟩
    · exact .inl ⟨i, a1, a2, a3⟩
    · exact .inr ⟨i, a1, a2, a3⟩
/-- A set of bytes. -/
theorem sem_set {r : Rx} (h3 : r.k = 3) {w : List Nat} {fr o : List Bool} (hl : o.length = w.length + 1) (h0 : o.getD 0 false = false) (hs : ∀ j, j < w.length → o.getD (j + 1) false = (fr.getD j false && has r.s (w.getD j 0))) : Sem (Mat r) w fr o := by
  refine ⟨hl, fun j hj => ?_⟩
  cases j with
  | zero =>
    rw [h0]
    simp only [Bool.false_eq_true, false_iff]
    rintro ⟨i, hi, _, hm⟩
    obtain rfl : i = 0 := by omega
    rw [slc_self] at hm
    obtain ⟨b, e, _⟩ := (Mat.of3 h3).1 hm
    cases e
  | succ j =>
    rw [hs j (by omega), Bool.and_eq_true]
    constructor
    · rintro ⟨a, b⟩
      exact ⟨j, by omega, a, by rw [slc_one (by omega)]; exact (Mat.of3 h3).2 ⟨_, rfl, b⟩⟩
    · rintro ⟨i, hi, hf, hm⟩
      obtain ⟨b, e, hb⟩ := (Mat.of3 h3).1 hm
      have hl2 := slc_len hi hj
      rw [e] at hl2
      have : i = j := by simp at hl2; omega
      subst this
      rw [slc_one (by omega), List.cons.injEq] at e
      exact ⟨hf, by rw [e.1]; exact hb⟩

/-! ### repetition -/
/-- What is reached, step by step, from a mark. -/
theorem star_app {r x : Rx} {l : List Rx} (h6 : r.k = 6) (hl : r.l = x :: l) {u v : List Nat} (hu : Mat r u) (hv : Mat x v) : Mat r (u ++ v) := by
  have key : ∀ (n : Nat) (u : List Nat), u.length ≤ n → Mat r u → Mat r (u ++ v) := by
    intro n
    induction n with
    | zero =>
      intro u hn _
      obtain rfl := List.eq_nil_of_length_eq_zero (Nat.le_zero.1 hn)
      rw [Mat.of6 h6 hl]
      exact .inr ⟨v, [], by simp, hv, (Mat.of6 h6 hl).2 (.inl rfl)⟩
    | succ n ih =>
      intro u hn hu
      cases u with
      | nil =>
        rw [Mat.of6 h6 hl]
        exact .inr ⟨v, [], by simp, hv, (Mat.of6 h6 hl).2 (.inl rfl)⟩
      | cons b u =>
        obtain ⟨a, c, rfl, h1, h2⟩ := (star_head h6 hl).1 hu
        have := ih c (by simp at hn; omega) h2
        rw [Mat.of6 h6 hl]
        exact .inr ⟨b :: a, c ++ v, by simp, h1, this⟩
  exact key _ u (Nat.le_refl _) hu

/-- Marks that lie among what is to be reached, and hold the first marks. -/
def Mid (r : Rx) (w : List Nat) (fr o : List Bool) : Prop :=
  o.length = w.length + 1 ∧ (∀ j, j ≤ w.length → fr.getD j false = true → o.getD j false = true) ∧ ∀ j, j ≤ w.length → o.getD j false = true → ∃ i, i ≤ j ∧ fr.getD i false = true ∧ Mat r (slc w i j)
theorem mid_0 {r x : Rx} {l : List Rx} (h6 : r.k = 6) (hl : r.l = x :: l) {w : List Nat} {fr : List Bool} (hf : fr.length = w.length + 1) : Mid r w fr fr :=
  ⟨hf, fun j _ h => h, fun j hj h => ⟨j, Nat.le_refl _, h, by rw [slc_self]; exact (Mat.of6 h6 hl).2 (.inl rfl)⟩⟩
theorem mid_step {r x : Rx} {l : List Rx} (h6 : r.k = 6) (hl : r.l = x :: l) {w : List Nat} {fr o o' : List Bool} (h : Mid r w fr o) (hlen : o'.length = w.length + 1)
    (ho : ∀ j, j ≤ w.length → o'.getD j false = (o.getD j false || (semOut (Mat x) w o).getD j false)) : Mid r w fr o' := by
  obtain ⟨h1, h2, h3⟩ := h
  refine ⟨hlen, fun j hj hf => by rw [ho j hj, h2 j hj hf, Bool.true_or], fun j hj hoj => ?_⟩
  rw [ho j hj, Bool.or_eq_true] at hoj
  rcases hoj with hoj | hoj
  · exact h3 j hj hoj
  · obtain ⟨m, hm, hom, hx⟩ := ((sem_out (Mat x) w o).2 j hj).1 hoj
    obtain ⟨i, hi, hf, hr⟩ := h3 m (by omega) hom
    exact ⟨i, by omega, hf, by rw [← slc_app hi hm]; exact star_app h6 hl hr hx⟩
theorem mid_end {r x : Rx} {l : List Rx} (h6 : r.k = 6) (hl : r.l = x :: l) {w : List Nat} {fr o : List Bool} (h : Mid r w fr o) (hc : ∀ j, j ≤ w.length → (semOut (Mat x) w o).getD j false = true → o.getD j false = true) : Sem (Mat r) w fr o := by
  obtain ⟨h1, h2, h3⟩ := h
  refine ⟨h1, fun j hj => ⟨h3 j hj, ?_⟩⟩
  rintro ⟨i, hi, hf, hm⟩
  have key : ∀ (n i j : Nat), j - i ≤ n → i ≤ j → j ≤ w.length → o.getD i false = true → Mat r (slc w i j) → o.getD j false = true := by
    intro n
    induction n with
    | zero =>
      intro i j hn hi _ ho _
      obtain rfl : i = j := by omega
      exact ho
    | succ n ih =>
      intro i j hn hi hj ho hm
      cases e : slc w i j with
      | nil =>
        have := slc_len hi hj
        rw [e] at this
        obtain rfl : i = j := by simp at this; omega
        exact ho
      | cons b z =>
        rw [e] at hm
        obtain ⟨u, v, rfl, hx, hr⟩ := (star_head h6 hl).1 hm
        have e' : slc w i j = (b :: u) ++ v := by rw [e]; rfl
        obtain ⟨e1, e2, h4⟩ := slc_split hi hj e'
        refine ih (i + (b :: u).length) j (by simp; omega) h4 hj ?_ (by rw [← e2]; exact hr)
        exact hc _ (by omega) (((sem_out (Mat x) w o).2 _ (by omega)).2 ⟨i, by omega, ho, by rw [← e1]; exact hx⟩)
  exact key _ i j (Nat.le_refl _) hi hj (h2 i (by omega) hf) hm

/-- How many marks are missing. -/
def falses : List Bool → Nat
  | [] => 0
  | p :: l => (if p then 0 else 1) + falses l
theorem falses_le : ∀ {o o' : List Bool}, o.length = o'.length → (∀ j : Nat, o.getD j false = true → o'.getD j false = true) → falses o' ≤ falses o
  | [], [], _, _ => Nat.le_refl _
  | p :: o, q :: o', hl, h => by
    have h0 := h 0
    simp at h0
    have ih := falses_le (o := o) (o' := o') (by simpa using hl) fun j hj => by
      have := h (j + 1)
      simp only [List.getD_cons_succ] at this
      exact this hj
    simp only [falses]
    cases p <;> cases q <;> simp at h0 ⊢ <;> omega
theorem falses_lt : ∀ {o o' : List Bool}, o.length = o'.length → (∀ j : Nat, o.getD j false = true → o'.getD j false = true) → (∃ j, j < o.length ∧ o.getD j false = false ∧ o'.getD j false = true) → falses o' < falses o
  | [], [], _, _, ⟨j, hj, _⟩ => by simp at hj
  | p :: o, q :: o', hl, h, ⟨j, hj, h1, h2⟩ => by
    have h0 := h 0
    simp at h0
    have hs : ∀ j : Nat, o.getD j false = true → o'.getD j false = true := fun j hj => by
      have := h (j + 1)
      simp only [List.getD_cons_succ] at this
      exact this hj
    have hl' : o.length = o'.length := by simpa using hl
    simp only [falses]
    cases j with
    | zero =>
      have := falses_le hl' hs
      simp at h1 h2
      subst h1 h2
      simp; omega
    | succ j =>
      simp only [List.getD_cons_succ] at h1 h2
      have := falses_lt hl' hs ⟨j, by simpa using hj, h1, h2⟩
      cases p <;> cases q <;> simp at h0 ⊢ <;> omega

/-! ### rows of marks -/
def rowP (l : List Bool) : List (List V) := l.map fun p => [boolV p]
theorem rowP_len (l : List Bool) : (rowP l).length = l.length := by simp [rowP]
theorem rowP_at {l : List Bool} {i : Nat} (h : i < l.length) : (rowP l)[i]? = some [boolV (l.getD i false)] := by
  simp [rowP, List.getD_eq_getElem?_getD, List.getElem?_eq_getElem h]
theorem rowP_is {l : List Bool} {i : Nat} {p : Bool} (h : i < l.length) (e : l.getD i false = p) : (rowP l)[i]? = some [boolV p] := e ▸ rowP_at h
theorem rowP_set (l : List Bool) (i : Nat) (p : Bool) : (rowP l).set i [boolV p] = rowP (l.set i p) := by simp [rowP, List.map_set]
theorem rowP_rep (n : Nat) : List.replicate n [boolV false] = rowP (List.replicate n false) := by simp [rowP]
theorem getD_setB (l : List Bool) {i : Nat} (p : Bool) (hi : i < l.length) (j : Nat) : (l.set i p).getD j false = if j = i then p else l.getD j false := by
  simp only [List.getD_eq_getElem?_getD, List.getElem?_set]
  by_cases h : i = j
  · subst h; simp [hi]
  · rw [if_neg h, if_neg fun e : j = i => h e.symm]

section
variable {L : Lite} {ext : Ext} {ops : Array Oper} {n0 : Nat} {sl : Nat → X} {ob : Nat → Ob} {d : Option Tmp} {ty : TypeId} {pos : String} {af : Array Edge} {gd : Option (Nat × Bool)} {r : List Oper} {Q : Option V → St → Fp → Prop}
theorem run_src {x : X} {z s0 : Nat} {es : List (List V)} (hs : SlX z s0 ob x es) : ∃ rd, ∀ (k : Nat → List (List V) → Ef Outc), ((srcOf x k).run ob) = (match ((k z es).run ob) with | some (a, H, r, w) => some (a, H, rd ++ r, w) | .none => .none) := by
  rcases hs with rfl | rfl | ⟨rfl, rfl⟩ | ⟨g, rfl, ho⟩
  · exact ⟨[], fun k => by simp only [srcOf, rdSl, List.nil_append]; cases (k z es).run ob with | none => rfl | some p => rfl⟩
  · exact ⟨[], fun k => by simp only [srcOf, rdSl, List.nil_append]; cases (k z es).run ob with | none => rfl | some p => rfl⟩
  · exact ⟨[], fun k => by simp only [srcOf, rdSl, List.nil_append]; cases (k z []).run ob with | none => rfl | some p => rfl⟩
  · refine ⟨[s0], fun k => ?_⟩
    simp only [srcOf, rdSl, Ef.run, ho, if_true]
    rw [List.drop_zero, List.take_of_length_le (Nat.le_refl _)]
    cases (k z es).run ob with | none => rfl | some p => rfl
/-- The whole of a slice is copied over the whole of another. -/
theorem wS_copyS {ts : Array TypeId} {t e : TypeId} {T E : TI} {tm : Tmp} {x y : Operand} {s g n z s0 : Nat} {es es' : List (List V)} (hx : (St.opd ⟨n0, sl, ob⟩) x = .own s g 0 n) (ho : ob s = .row g true z es) (hl : es.length = n) (hs : SlX z s0 ob ((St.opd ⟨n0, sl, ob⟩) y) es') (hl' : es'.length = n)
    (h0 : ts[0]? = some t) (ht : L.ti t = T) (hu : T.und = .slice e) (he : L.ti e = E) (hz : z = E.size) (hn : Nat.ble (tm + 1) n0 = true) (hg : guardX ops ⟨some tm, .call { callee := .builtin .copy, args := #[x, y], argTypes := ts }, ty, pos, af, gd⟩ ⟨n0, sl, ob⟩ = some true)
    (hk : ∀ v rd wr, wpO L ext ops r ⟨n0, upd sl tm (.v v), upd ob s (.row g true z es')⟩ (fun p ρ' f => Q p ρ' ((rd, wr) :: f))) :
    wpO L ext ops (⟨some tm, .call { callee := .builtin .copy, args := #[x, y], argTypes := ts }, ty, pos, af, gd⟩ :: r) ⟨n0, sl, ob⟩ Q := by
  subst ht he
  obtain ⟨rd, hsrc⟩ := run_src hs
  have ha : ActEv L ext ⟨some tm, .call { callee := .builtin .copy, args := #[x, y], argTypes := ts }, ty, pos, af, gd⟩ ⟨n0, sl, ob⟩ (.v (.lit (.int .i64 (min es'.length n : Nat)))) (upd ob s (.row g true z es')) (rd ++ [s]) [s] := by
    refine ⟨0, fun k _ => ?_⟩
    simp only [act, List.map_cons, List.map_nil, actBuiltin, actCopy, h0, Option.map_some, hu]
    rw [hsrc]
    have e1 : es.take 0 ++ es'.take n ++ es.drop (0 + min es'.length n) = es' := by
      rw [List.take_zero, List.nil_append, List.take_of_length_le (Nat.le_of_eq hl'), List.drop_of_length_le (by omega), List.append_nil]
    simp only [hx, Ef.run, ho, hz, and_self, if_true, e1]
  exact wS_set rfl hn hg ha (hk _ _ _)
end
end Go.Dv

namespace Go.Dv
open Go

section
variable {L : Lite} {ext : Ext} {ops : Array Oper} {n0 : Nat} {sl : Nat → X} {ob : Nat → Ob} {d : Option Tmp} {ty : TypeId} {pos : String} {af : Array Edge} {gd : Option (Nat × Bool)} {r : List Oper} {Q : Option V → St → Fp → Prop}
theorem wS_callS3 {f a b x : Operand} {ats : Array TypeId} {g : FuncId} {fn : Func} {va vb res : V} {z s0 : Nat} {es : List (List V)} {tm : Tmp} (hs : SlX z s0 ob ((St.opd ⟨n0, sl, ob⟩) x) es) (hf : (St.opd ⟨n0, sl, ob⟩) f = .clo g []) (ha : (St.opd ⟨n0, sl, ob⟩) a = .v va) (hb : (St.opd ⟨n0, sl, ob⟩) b = .v vb)
    (hfn : L.fn.getD g .none = some fn) (hz : L.frz.contains g = false) (hc : ∀ y, (y = .v (.sl z es) ∨ y = .lent z es) → FnEv L ext g [.v va, .v vb, y] [] (.ret [res], [])) (hxb : L.xb.contains g = false) (hit : L.its.lookup g = .none) (hjn : L.jn.contains g = false)
    (hn : Nat.ble (tm + 1) n0 = true) (hg : guardX ops ⟨some tm, .call { callee := .value f, args := #[a, b, x], argTypes := ats }, ty, pos, af, gd⟩ ⟨n0, sl, ob⟩ = some true)
    (hk : ∀ rd, wpO L ext ops r ⟨n0, upd sl tm (.v res), ob⟩ (fun p ρ' f => Q p ρ' ((rd, []) :: f))) :
    wpO L ext ops (⟨some tm, .call { callee := .value f, args := #[a, b, x], argTypes := ats }, ty, pos, af, gd⟩ :: r) ⟨n0, sl, ob⟩ Q := by
  have key : ∀ {xs as : List X} {rd : List Nat}, #[a, b, x].toList.map (St.opd ⟨n0, sl, ob⟩) = xs → handP ob xs = some (as, rd) → FnEv L ext g as [] (.ret [res], []) →
      ActEv L ext ⟨some tm, .call { callee := .value f, args := #[a, b, x], argTypes := ats }, ty, pos, af, gd⟩ ⟨n0, sl, ob⟩ (.v res) ob (rd ++ []) [] := fun h1 h2 h3 =>
    a_call hf (by rw [List.append_nil]; exact h1) hfn hz h2 h3 hxb hit hjn
  rcases hs with h | h | ⟨h, rfl⟩ | ⟨gg, h, ho⟩
  · exact wS_set rfl hn hg (key (xs := [.v va, .v vb, .v (.sl z es)]) (by simp [ha, hb, h]) rfl (hc _ (.inl rfl))) (hk _)
  · exact wS_set rfl hn hg (key (xs := [.v va, .v vb, .lent z es]) (by simp [ha, hb, h]) rfl (hc _ (.inr rfl))) (hk _)
  · exact wS_set rfl hn hg (key (xs := [.v va, .v vb, .nil z]) (by simp [ha, hb, h]) rfl (hc _ (.inl rfl))) (hk _)
  · exact wS_set rfl hn hg (key (xs := [.v va, .v vb, .own s0 gg 0 es.length]) (as := [.v va, .v vb, .lent z es]) (rd := [s0]) (by simp [ha, hb, h]) (by simp [handP, ho, whole (Nat.le_refl es.length)]) (hc _ (.inr rfl))) (hk _)
/-- A result that is a slice of any make but lent. -/
theorem end_sl {fn : Func} {a z s0 : Nat} {es : List (List V)} (hr : fn.results.toList = [.tmp a]) (hs : SlX z s0 ob (sl a) es) (hl : ∀ z es, sl a ≠ .lent z es) : endF L fn 0 (.ret [.sl z es], []) .ret ⟨n0, sl, ob⟩ := by
  obtain ⟨ob', hk, _⟩ := hs.kept hl
  exact end_res hr (.tmp rfl hk .nil) rfl
end
end Go.Dv

namespace Go.Dv
open Go

theorem shal_subs : ∀ (r : Rx) (lv : Nat) (left : Int), 0 ≤ shal r lv left → ((subs r).length : Int) + shal r lv left ≤ left := by
  intro r
  induction r using Rx.ind' with
  | h r ih =>
    intro lv left h
    have key : ∀ (l : List Rx), (∀ x ∈ l, ∀ (lv : Nat) (left : Int), 0 ≤ shal x lv left → ((subs x).length : Int) + shal x lv left ≤ left) → ∀ (lv : Nat) (left : Int), 0 ≤ shals l lv left → ((subsL l).length : Int) + shals l lv left ≤ left := by
      intro l
      induction l with
      | nil => intro _ lv left h; rw [shals, subsL] at *; simp
      | cons x l ih2 =>
        intro hh lv left h
        rw [shals] at h ⊢
        rw [subsL, List.length_append]
        split at h
        · omega
        · rename_i h0
          rw [if_neg h0]
          have h1 := ih2 (fun y hy => hh y (List.mem_cons_of_mem _ hy)) lv _ h
          have h2 : 0 ≤ shal x (lv + 1) left := by omega
          have h3 := hh x List.mem_cons_self (lv + 1) left h2
          omega
    rw [shal_eq] at h ⊢
    split at h
    · omega
    · rename_i h0
      rw [if_neg h0, subs_eq, List.length_cons]
      have := key r.l ih lv (left - 1) h
      omega

theorem validRs_mem : ∀ {l : List Rx} {a : Nat}, validRs l a = true → ∀ x ∈ l, validR x a = true
  | [], _, _, x, hx => by simp at hx
  | y :: l, a, h, x, hx => by
    rw [validRs, Bool.and_eq_true] at h
    rcases List.mem_cons.1 hx with rfl | hx
    · exact h.1
    · exact validRs_mem h.2 x hx
theorem kids_subs (r : Rx) : r.l.length < (subs r).length := by
  have := kids_le r
  rw [subs_eq, List.map_cons, List.sum_cons] at this
  rw [subs_eq]
  omega
/-- Of valid expressions every repetition has something to repeat. -/
theorem validR_good : ∀ (r : Rx) {B C : Nat} {a : Nat}, validR r a = true → r.wf C → (subs r).length ≤ B → r.good B := by
  intro r
  induction r using Rx.ind' with
  | h r ih =>
    intro B C a hv hw hB
    have hl : r.l.length ≤ B := by
      have := kids_le r
      rw [subs_eq, List.map_cons, List.sum_cons] at this
      rw [subs_eq] at hB
      omega
    rw [validR_eq] at hv
    have kids : ∀ x ∈ r.l, validR x (a + 1) = true := by
      split at hv
      · cases hv
      · split at hv
        · cases hv
        · split at hv
          · rw [decide_eq_true_iff] at hv; intro x hx; rw [List.eq_nil_of_length_eq_zero hv] at hx; simp at hx
          · split at hv
            · rw [Bool.and_eq_true, decide_eq_true_iff] at hv; intro x hx; rw [List.eq_nil_of_length_eq_zero hv.1] at hx; simp at hx
            · split at hv
              · split at hv
                · cases hv
                · exact validRs_mem hv
              · split at hv
                · split at hv
                  · cases hv
                  · exact validRs_mem hv
                · cases hv
    have h6 : r.k = 6 → r.l ≠ [] := by
      intro h6 hn
      rw [hn] at hv
      simp [h6] at hv
    have hk : ∀ x ∈ r.l, x.good B := fun x hx => ih x hx (kids x hx) (hw.kids x hx) (by have := subs_lt r (subs_self r) hx; omega)
    rw [Rx.eta r]
    exact .mk hw.kind hw.set hl h6 hk

mutual
/-- How deep an expression is. -/
def depR : Rx → Nat
  | .mk _ _ l => depRs l 0 + 1
def depRs : List Rx → Nat → Nat
  | [], n => n
  | r :: l, n => depRs l (max n (depR r))
end
theorem depR_eq (r : Rx) : depR r = depRs r.l 0 + 1 := by cases r; rw [depR]; rfl
theorem depRs_step {l : List Rx} {i : Nat} {r : Rx} {n : Nat} (h : l[i]? = some r) : depRs (l.drop i) n = depRs (l.drop (i + 1)) (max n (depR r)) := by
  obtain ⟨hi, rfl⟩ := List.getElem?_eq_some_iff.1 h
  rw [List.drop_eq_getElem_cons hi, depRs]
theorem depR_le : ∀ r : Rx, depR r ≤ (subs r).length := by
  intro r
  induction r using Rx.ind' with
  | h r ih =>
    have key : ∀ (l : List Rx), (∀ x ∈ l, depR x ≤ (subs x).length) → ∀ n, depRs l n ≤ max n (subsL l).length := by
      intro l
      induction l with
      | nil => intro _ n; rw [depRs]; omega
      | cons x l ih2 =>
        intro hh n
        rw [depRs, subsL, List.length_append]
        have h1 := ih2 (fun y hy => hh y (List.mem_cons_of_mem _ hy)) (max n (depR x))
        have h2 := hh x List.mem_cons_self
        omega
    rw [depR_eq, subs_eq, List.length_cons]
    have := key r.l ih 0
    omega

/-! ### loops over marks -/
/-- A row into which, below a place, the marks of another are taken over. -/
def OrTo (a b o : List Bool) (i : Nat) : Prop := o.length = a.length ∧ ∀ j : Nat, o.getD j false = if j < i then (a.getD j false || b.getD j false) else a.getD j false
theorem orTo_0 (a b : List Bool) : OrTo a b a 0 := ⟨rfl, fun j => by simp⟩
theorem orTo_step {a b o : List Bool} {i : Nat} {p : Bool} (h : OrTo a b o i) (hi : i < a.length) (hp : p = (o.getD i false || b.getD i false)) : OrTo a b (o.set i p) (i + 1) := by
  refine ⟨by rw [List.length_set]; exact h.1, fun j => ?_⟩
  rw [getD_setB _ _ (by rw [h.1]; exact hi)]
  have h1 := h.2 j
  by_cases hj : j = i
  · subst hj
    rw [if_pos rfl, if_pos (Nat.lt_succ_self _), hp, h1, if_neg (Nat.lt_irrefl _)]
  · rw [if_neg hj, h1]
    by_cases h2 : j < i
    · rw [if_pos h2, if_pos (by omega)]
    · rw [if_neg h2, if_neg (by omega)]
theorem orTo_all {a b o : List Bool} {n : Nat} (h : OrTo a b o n) : ∀ j, j < n → o.getD j false = (a.getD j false || b.getD j false) := fun j hj => by rw [h.2 j, if_pos hj]

/-- A row that is moved on by one place where a byte lies in a set. -/
def SetTo (fr : List Bool) (f : Nat → Bool) (o : List Bool) (n i : Nat) : Prop := o.length = n + 1 ∧ o.getD 0 false = false ∧ ∀ j : Nat, o.getD (j + 1) false = if j < i then (fr.getD j false && f j) else false
theorem getD_repF (n j : Nat) : (List.replicate n false).getD j false = false := by
  rw [List.getD_eq_getElem?_getD, List.getElem?_replicate]; split <;> rfl
theorem setTo_0 (fr : List Bool) (f : Nat → Bool) (n : Nat) : SetTo fr f (List.replicate (n + 1) false) n 0 :=
  ⟨by simp, getD_repF _ _, fun j => by rw [getD_repF]; simp⟩
theorem setTo_step {fr o : List Bool} {f : Nat → Bool} {n i : Nat} {p : Bool} (h : SetTo fr f o n i) (hi : i < n) (hp : p = (fr.getD i false && f i)) : SetTo fr f (o.set (i + 1) p) n (i + 1) := by
  have hl : i + 1 < o.length := by rw [h.1]; omega
  refine ⟨by rw [List.length_set]; exact h.1, by rw [getD_setB _ _ hl, if_neg (by omega)]; exact h.2.1, fun j => ?_⟩
  rw [getD_setB _ _ hl]
  by_cases hj : j = i
  · subst hj
    rw [if_pos rfl, if_pos (Nat.lt_succ_self _), hp]
  · rw [if_neg (by omega), h.2.2 j]
    by_cases h2 : j < i
    · rw [if_pos h2, if_pos (by omega)]
    · rw [if_neg h2, if_neg (by omega)]
theorem setTo_end {fr o : List Bool} {f : Nat → Bool} {n : Nat} (h : SetTo fr f o n n) : ∀ j, j < n → o.getD (j + 1) false = (fr.getD j false && f j) := fun j hj => by rw [h.2.2 j, if_pos hj]

theorem sem_nilL {w : List Nat} {fr : List Bool} (hl : fr.length = w.length + 1) : Sem (MatL []) w fr fr := (sem_id hl).congr fun z => MatL.of_nil.symm
theorem sem_snocL {l : List Rx} {x : Rx} {w : List Nat} {fr mid out : List Bool} (h1 : Sem (MatL l) w fr mid) (h2 : Sem (Mat x) w mid out) : Sem (MatL (l ++ [x])) w fr out :=
  (sem_comp h1 h2).congr fun z => by rw [MatL.of_app]; simp only [MatL.of_one]
theorem sem_zeroA {w : List Nat} {fr : List Bool} : Sem (AnyM []) w fr (List.replicate (w.length + 1) false) := sem_zero fun z h => by obtain ⟨x, hx, _⟩ := h; simp at hx
theorem sem_snocA {l : List Rx} {x : Rx} {w : List Nat} {fr a b o : List Bool} (h1 : Sem (AnyM l) w fr a) (h2 : Sem (Mat x) w fr b) (h : OrTo a b o (w.length + 1)) : Sem (AnyM (l ++ [x])) w fr o :=
  (sem_or h1 h2 (h.1.trans h1.1) fun j hj => orTo_all h j (by omega)).congr fun z => by
    constructor
    · rintro (⟨y, hy, h⟩ | h)
      · exact ⟨y, List.mem_append_left _ hy, h⟩
      · exact ⟨x, by simp, h⟩
    · rintro ⟨y, hy, h⟩
      rcases List.mem_append.1 hy with hy | hy
      · exact .inl ⟨y, hy, h⟩
      · simp at hy; subst hy; exact .inr h
theorem take_snoc {l : List Rx} {i : Nat} {x : Rx} (h : l[i]? = some x) : l.take (i + 1) = l.take i ++ [x] := by
  obtain ⟨hi, rfl⟩ := List.getElem?_eq_some_iff.1 h
  rw [List.take_succ_eq_append_getElem hi]
theorem more_step {a b : List Bool} {q : Bool} {l : Nat} (h : q = true ↔ ∃ j, j < l ∧ b.getD j false = true ∧ a.getD j false = false) : (q || (b.getD l false && !a.getD l false)) = true ↔ ∃ j, j < l + 1 ∧ b.getD j false = true ∧ a.getD j false = false := by
  rw [Bool.or_eq_true, Bool.and_eq_true, Bool.not_eq_true', h]
  constructor
  · rintro (⟨j, h1, h2⟩ | h1)
    · exact ⟨j, by omega, h2⟩
    · exact ⟨l, by omega, h1⟩
  · rintro ⟨j, h1, h2⟩
    by_cases hj : j = l
    · subst hj; exact .inr h2
    · exact .inl ⟨j, by omega, h2⟩
/-- A round of the repetition that says that it found nothing new has found nothing new; one that found something leaves fewer marks missing. -/
theorem round_less {a b o : List Bool} (h : OrTo a b o a.length) (hn : ∃ j, j < a.length ∧ b.getD j false = true ∧ a.getD j false = false) : falses o < falses a := by
  refine falses_lt h.1.symm (fun j hj => ?_) ?_
  · rw [h.2 j, hj]; split <;> simp
  · obtain ⟨j, h1, h2, h3⟩ := hn
    exact ⟨j, h1, h3, by rw [orTo_all h j h1, h2, Bool.or_true]⟩
theorem round_same {a b o : List Bool} (h : OrTo a b o a.length) (hn : ¬ ∃ j, j < a.length ∧ b.getD j false = true ∧ a.getD j false = false) : o = a := by
  apply List.ext_getElem h.1
  intro j h1 h2
  have e := orTo_all h j h2
  rw [List.getD_eq_getElem?_getD, List.getElem?_eq_getElem h1, Option.getD_some] at e
  rw [e]
  have ea : a.getD j false = a[j] := by rw [List.getD_eq_getElem?_getD, List.getElem?_eq_getElem h2, Option.getD_some]
  rw [ea]
  cases hb : b.getD j false with
  | false => rw [Bool.or_false]
  | true =>
    cases haj : a[j] with
    | true => rfl
    | false => exact absurd ⟨j, h2, hb, by rw [ea, haj]⟩ hn
theorem slx_own {z s0 g n : Nat} {ob : Nat → Ob} {x : X} {es : List (List V)} (hx : x = .own s0 g 0 n) (hn : es.length = n) (ho : ob s0 = .row g true z es) : SlX z s0 ob x es := by
  subst hn; exact .inr (.inr (.inr ⟨g, hx, ho⟩))
end Go.Dv

namespace Go.Dv
open Go

theorem bool_eq {p q : Bool} (h : p = true ↔ q = true) : p = q := Bool.eq_iff_iff.2 h
theorem start_getD (n i : Nat) : ((List.replicate (n + 1) false).set 0 true).getD i false = decide (i = 0) := by
  rw [getD_setB _ _ (by simp)]
  split
  · rename_i h; subst h; rfl
  · rename_i h; rw [getD_repF, decide_eq_false h]
theorem match_ends (r : Rx) (w : List Nat) : (semOut (Mat r) w ((List.replicate (w.length + 1) false).set 0 true)).getD w.length false = nul (derL w r) := by
  apply bool_eq
  rw [(sem_out (Mat r) w _).2 _ (Nat.le_refl _), match_iff]
  constructor
  · rintro ⟨i, _, h1, h2⟩
    rw [start_getD, decide_eq_true_iff] at h1
    subst h1
    rwa [slc_all] at h2
  · intro h
    exact ⟨0, Nat.zero_le _, by rw [start_getD]; rfl, by rw [slc_all]; exact h⟩
theorem derL_app : ∀ (u v : List Nat) (r : Rx), derL (u ++ v) r = derL v (derL u r)
  | [], _, _ => rfl
  | b :: u, v, r => by rw [List.cons_append, derL, derL, derL_app u v]
theorem NB_at {S n B S' n' : Nat} (h1 : S ≤ S') (h2 : n ≤ n') (h : NB S' n' ≤ B) : NB S n ≤ B := Nat.le_trans (NB_mono h1 h2) h
theorem bl_app (s t : ByteArray) : bl (s ++ t) = bl s ++ bl t := by
  unfold bl
  rw [ByteArray.data_append, Array.toList_append, List.map_append]
theorem bl_ext (s : ByteArray) (l h : Nat) : bl (s.extract l h) = ((bl s).take h).drop l := by
  unfold bl
  rw [ByteArray.data_extract, Array.toList_extract, List.extract, List.map_take, List.map_drop, List.drop_take]
theorem bl_one (u : UInt8) : bl ⟨[u].toArray⟩ = [u.toNat] := rfl
theorem u8_of {b : Nat} (h : b < 256) : (UInt8.ofNat b).toNat = b := by simp [UInt8.toNat_ofNat']; omega
theorem bl_nil : bl ⟨#[]⟩ = [] := rfl
theorem okW_der {r : Rx} {w : List Nat} {b B : Nat} (h : NB (subs r).length (w.length + 1) ≤ B) : okW B w (der b r) := by
  intro i c hi
  have hlt := (List.getElem?_eq_some_iff.1 hi).1
  exact okD_main _ r (Nat.le_refl _) (b :: w.take i) c B (Nat.le_trans (NB_mono (Nat.le_refl _) (by rw [List.length_cons, List.length_take]; omega)) h)
theorem okD_one {r : Rx} {b B : Nat} (h : NB (subs r).length 0 ≤ B) : okD B b r := okD_main _ r (Nat.le_refl _) [] b B h

theorem loop_len (s : ByteArray) : ∀ (n i : Nat) (r : List UInt8), s.size - i = n → i ≤ s.size → (ByteArray.toList.loop s i r).length = r.length + n
  | 0, i, r, h, h2 => by rw [ByteArray.toList.loop, if_neg (by omega), List.length_reverse]; rfl
  | n + 1, i, r, h, h2 => by
    rw [ByteArray.toList.loop, if_pos (by omega), loop_len s n (i + 1) _ (by omega) (by omega), List.length_cons]; omega
theorem toList_len (s : ByteArray) : s.toList.length = s.size := by
  unfold ByteArray.toList; rw [loop_len s s.size 0 [] rfl (Nat.zero_le _)]; simp
theorem str_nil (s : ByteArray) : (s.toList == (⟨#[]⟩ : ByteArray).toList) = decide (bl s = []) := by
  apply bool_eq
  rw [decide_eq_true_iff, beq_iff_eq, show (⟨#[]⟩ : ByteArray).toList = [] from List.eq_nil_of_length_eq_zero (by rw [toList_len]; rfl), ← List.length_eq_zero_iff, ← List.length_eq_zero_iff, toList_len, bl_len]

/-! ### both, either, many -/
def bothR (a b : Rx) : Rx := .mk 4 zeroW [a, b]
def eithR (a b : Rx) : Rx := .mk 5 zeroW [a, b]
def manyR (a : Rx) : Rx := .mk 6 zeroW [a]
theorem bothR_good {B : Nat} {a b : Rx} (hB : 2 ≤ B) (ha : a.good B) (hb : b.good B) : (bothR a b).good B := .mk (by omega) isW_zero hB (by omega) fun r h => by
  simp at h; rcases h with rfl | rfl <;> assumption
theorem eithR_good {B : Nat} {a b : Rx} (hB : 2 ≤ B) (ha : a.good B) (hb : b.good B) : (eithR a b).good B := .mk (by omega) isW_zero hB (by omega) fun r h => by
  simp at h; rcases h with rfl | rfl <;> assumption
theorem manyR_good {B : Nat} {a : Rx} (hB : 2 ≤ B) (ha : a.good B) : (manyR a).good B := .mk (by omega) isW_zero (by simp; omega) (fun _ h => by cases h) fun r h => by
  simp at h; subst h; assumption
theorem subs_both (a b : Rx) : (subs (bothR a b)).length = 1 + (subs a).length + (subs b).length := by
  rw [subs_eq, show (bothR a b).l = [a, b] from rfl]; simp only [subsL, List.length_cons, List.length_append, List.length_nil]; omega
theorem subs_eith (a b : Rx) : (subs (eithR a b)).length = 1 + (subs a).length + (subs b).length := by
  rw [subs_eq, show (eithR a b).l = [a, b] from rfl]; simp only [subsL, List.length_cons, List.length_append, List.length_nil]; omega
theorem subs_many (a : Rx) : (subs (manyR a)).length = 1 + (subs a).length := by
  rw [subs_eq, show (manyR a).l = [a] from rfl]; simp only [subsL, List.length_cons, List.length_append, List.length_nil]; omega

/-- Where a string is cut in two: whether any cut below a place does. -/
def cutR (a b : Rx) (w : List Nat) (j : Nat) : Bool := nul (derL (w.take j) a) && nul (derL (w.drop j) b)
def Cuts (lo : Nat) (a b : Rx) (w : List Nat) (q : Bool) (i : Nat) : Prop := q = true ↔ ∃ j, lo ≤ j ∧ j < i ∧ cutR a b w j = true
theorem cuts_step {lo : Nat} {a b : Rx} {w : List Nat} {q p : Bool} {i : Nat} (h : Cuts lo a b w q i) (hp : p = (q || (decide (lo ≤ i) && cutR a b w i))) : Cuts lo a b w p (i + 1) := by
  unfold Cuts at h ⊢
  rw [hp, Bool.or_eq_true, Bool.and_eq_true, decide_eq_true_iff, h]
  constructor
  · rintro (⟨j, h1, h2, h3⟩ | ⟨h1, h2⟩)
    · exact ⟨j, h1, by omega, h3⟩
    · exact ⟨i, h1, by omega, h2⟩
  · rintro ⟨j, h1, h2, h3⟩
    by_cases hj : j = i
    · subst hj; exact .inr ⟨h1, h3⟩
    · exact .inl ⟨j, h1, by omega, h3⟩
theorem more_cut {a b : Rx} {w : List Nat} {p : Bool} {i : Nat} (h : p = true ↔ w = [] ∨ ∃ j, 1 ≤ j ∧ j < i ∧ cutR a b w j = true) : (p || (decide (1 ≤ i) && cutR a b w i)) = true ↔ w = [] ∨ ∃ j, 1 ≤ j ∧ j < i + 1 ∧ cutR a b w j = true := by
  rw [Bool.or_eq_true, Bool.and_eq_true, decide_eq_true_iff, h]
  constructor
  · rintro ((h | ⟨j, h1, h2, h3⟩) | ⟨h1, h2⟩)
    · exact .inl h
    · exact .inr ⟨j, h1, by omega, h3⟩
    · exact .inr ⟨i, h1, by omega, h2⟩
  · rintro (h | ⟨j, h1, h2, h3⟩)
    · exact .inl (.inl h)
    · by_cases hj : j = i
      · subst hj; exact .inr ⟨h1, h3⟩
      · exact .inl (.inr ⟨j, h1, by omega, h3⟩)
theorem take_drop_iff {P Q : List Nat → Prop} {w : List Nat} : (∃ u v, w = u ++ v ∧ P u ∧ Q v) ↔ ∃ j, j < w.length + 1 ∧ P (w.take j) ∧ Q (w.drop j) := by
  constructor
  · rintro ⟨u, v, rfl, h1, h2⟩
    exact ⟨u.length, by rw [List.length_append]; omega, by rw [List.take_left]; exact h1, by rw [List.drop_left]; exact h2⟩
  · rintro ⟨j, _, h1, h2⟩
    exact ⟨_, _, (List.take_append_drop j w).symm, h1, h2⟩
theorem cutR_iff {a b : Rx} {w : List Nat} {j : Nat} : cutR a b w j = true ↔ Mat a (w.take j) ∧ Mat b (w.drop j) := by
  unfold cutR; rw [Bool.and_eq_true, match_iff, match_iff]
theorem both_is {a b : Rx} {w : List Nat} {q : Bool} (h : Cuts 0 a b w q (w.length + 1)) : nul (derL w (bothR a b)) = q := by
  apply bool_eq
  unfold Cuts at h
  rw [match_iff, Mat.of4 rfl, show (bothR a b).l = [a, b] from rfl, MatL.of_cons]
  simp only [MatL.of_one]
  rw [take_drop_iff, h]
  constructor
  · rintro ⟨j, h1, h2⟩; exact ⟨j, Nat.zero_le _, h1, cutR_iff.2 h2⟩
  · rintro ⟨j, _, h1, h2⟩; exact ⟨j, h1, cutR_iff.1 h2⟩
theorem eith_is (a b : Rx) (w : List Nat) : nul (derL w (eithR a b)) = (nul (derL w a) || nul (derL w b)) := by
  apply bool_eq
  rw [Bool.or_eq_true, match_iff, match_iff, match_iff, Mat.of5 rfl]
  show (∃ x, x ∈ [a, b] ∧ Mat x w) ↔ _
  simp
theorem many_is {a : Rx} {w : List Nat} {q : Bool} (h : q = true ↔ w = [] ∨ ∃ j, 1 ≤ j ∧ j < w.length + 1 ∧ cutR a (manyR a) w j = true) : nul (derL w (manyR a)) = q := by
  apply bool_eq
  rw [match_iff, h]
  cases w with
  | nil => simp only [true_or, iff_true]; exact (Mat.of6 rfl rfl).2 (.inl rfl)
  | cons b w =>
    rw [star_head (l := []) rfl rfl]
    simp only [reduceCtorEq, false_or]
    constructor
    · rintro ⟨u, v, rfl, h1, h2⟩
      refine ⟨u.length + 1, by omega, by simp; omega, cutR_iff.2 ⟨?_, ?_⟩⟩
      · simpa using h1
      · simpa using h2
    · rintro ⟨j, h1, h2, h3⟩
      obtain ⟨h4, h5⟩ := cutR_iff.1 h3
      obtain ⟨j, rfl⟩ : ∃ k, j = k + 1 := ⟨j - 1, by omega⟩
      exact ⟨w.take j, w.drop j, (List.take_append_drop j w).symm, by simpa using h4, by simpa using h5⟩
end Go.Dv
