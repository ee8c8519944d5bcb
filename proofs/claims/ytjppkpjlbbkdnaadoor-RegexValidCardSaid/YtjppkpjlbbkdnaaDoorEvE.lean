/-
  What is proved here: slices of any make, expressions as data, their validity and size, for the evaluator. Conditions: those that stand at each theorem.
-/
import Derived.Test.YtjppkpjlbbkdnaaDoorEvD

namespace Go.Dv
open Go

/-- A slice that grows: nil, or owned at a site. -/
def RowX (z s0 : Nat) (ob : Nat → Ob) (x : X) (es : List (List V)) : Prop :=
  (x = .nil z ∧ es = []) ∨ (es ≠ [] ∧ ∃ g, x = .own s0 g 0 es.length ∧ ob s0 = .row g true z es)
/-- A slice that is read: data, lent, nil, or owned at a site. -/
def SlX (z s0 : Nat) (ob : Nat → Ob) (x : X) (es : List (List V)) : Prop :=
  x = .v (.sl z es) ∨ x = .lent z es ∨ (x = .nil z ∧ es = []) ∨ ∃ g, x = .own s0 g 0 es.length ∧ ob s0 = .row g true z es
/-- Where an element lies. -/
def EltX (ob : Nat → Ob) (y : X) (c : List V) : Prop :=
  y = .ro c ∨ ∃ s g i mt z es, y = .elt s g i 0 ∧ ob s = .row g mt z es ∧ es[i]? = some c

theorem RowX.sl {z s0 : Nat} {ob : Nat → Ob} {x : X} {es : List (List V)} (h : RowX z s0 ob x es) : SlX z s0 ob x es := by
  rcases h with h | ⟨_, h⟩
  · exact .inr (.inr (.inl h))
  · exact .inr (.inr (.inr h))
theorem SlX.keep {z s0 : Nat} {ob ob' : Nat → Ob} {x : X} {es : List (List V)} (h : SlX z s0 ob x es) (e : ob' s0 = ob s0) : SlX z s0 ob' x es := by
  rcases h with h | h | h | ⟨g, h1, h2⟩
  · exact .inl h
  · exact .inr (.inl h)
  · exact .inr (.inr (.inl h))
  · exact .inr (.inr (.inr ⟨g, h1, e.trans h2⟩))
theorem RowX.keep {z s0 : Nat} {ob ob' : Nat → Ob} {x : X} {es : List (List V)} (h : RowX z s0 ob x es) (e : ob' s0 = ob s0) : RowX z s0 ob' x es := by
  rcases h with h | ⟨h0, g, h1, h2⟩
  · exact .inl h
  · exact .inr ⟨h0, g, h1, e.trans h2⟩
theorem SlX.kept {z s0 : Nat} {ob : Nat → Ob} {x : X} {es : List (List V)} (h : SlX z s0 ob x es) (hl : ∀ z es, x ≠ .lent z es) : ∃ ob', Kept ob x (.sl z es) ob' ∧ ∀ s, s ≠ s0 → ob' s = ob s := by
  rcases h with rfl | rfl | ⟨rfl, rfl⟩ | ⟨g, rfl, h2⟩
  · exact ⟨ob, .v, fun _ _ => rfl⟩
  · exact absurd rfl (hl _ _)
  · exact ⟨ob, .nil, fun _ _ => rfl⟩
  · exact ⟨_, .own h2 (by rw [List.drop_zero, List.take_of_length_le (Nat.le_refl _)]), fun s hs => by simp [upd, hs]⟩
theorem RowX.kept {z s0 : Nat} {ob : Nat → Ob} {x : X} {es : List (List V)} (h : RowX z s0 ob x es) : ∃ ob', Kept ob x (.sl z es) ob' ∧ ∀ s, s ≠ s0 → ob' s = ob s := by
  refine h.sl.kept fun z es e => ?_
  rcases h with ⟨rfl, _⟩ | ⟨_, g, rfl, _⟩ <;> cases e
theorem RowX.notNil {z s0 : Nat} {ob : Nat → Ob} {x : X} {es : List (List V)} (h : RowX z s0 ob x es) (hne : es ≠ []) : ∃ g, x = .own s0 g 0 es.length ∧ ob s0 = .row g true z es := by
  rcases h with ⟨_, h⟩ | ⟨_, h⟩
  · exact absurd h hne
  · exact h

section
variable {L : Lite} {ext : Ext} {ops : Array Oper} {n0 : Nat} {sl : Nat → X} {ob : Nat → Ob} {d : Option Tmp} {ty : TypeId} {pos : String} {af : Array Edge} {gd : Option (Nat × Bool)} {r : List Oper} {Q : Option V → St → Fp → Prop}

theorem a_lenS {x : Operand} {ts : Array TypeId} {t e : TypeId} {T : TI} {z s0 : Nat} {es : List (List V)} (hs : SlX z s0 ob ((St.opd ⟨n0, sl, ob⟩) x) es) (h0 : ts[0]? = some t) (ht : L.ti t = T) (hu : T.und = .slice e) :
    ActEv L ext ⟨d, .call { callee := .builtin .len, args := #[x], argTypes := ts }, ty, pos, af, gd⟩ ⟨n0, sl, ob⟩ (.v (natV es.length)) ob [] [] := by
  rcases hs with h | h | ⟨h, rfl⟩ | ⟨g, h, _⟩
  · exact a_lenV h h0 ht hu
  · exact a_lenL h h0 ht hu
  · exact a_lenN h h0 ht hu
  · exact a_lenO h h0 ht hu

theorem wS_idxS {t tt e : TypeId} {T E : TI} {tm : Tmp} {x y : Operand} {k : IntKind} {a z s0 : Nat} {es : List (List V)} {c : List V} (hs : SlX z s0 ob ((St.opd ⟨n0, sl, ob⟩) x) es) (hi : (St.opd ⟨n0, sl, ob⟩) y = .v (.lit (.int k (a : Int)))) (hc : es[a]? = some c)
    (ht : L.ti t = T) (hu : T.und = .slice e) (he : L.ti e = E) (hz : z = E.size) (hn : Nat.ble (tm + 1) n0 = true) (hg : guardX ops ⟨some tm, .indexAddr t x y, ty, pos, af, gd⟩ ⟨n0, sl, ob⟩ = some true)
    (hk : ∀ w rd, EltX ob w c → wpO L ext ops r ⟨n0, upd sl tm w, ob⟩ (fun p ρ' f => Q p ρ' ((rd, []) :: f))) : wpO L ext ops (⟨some tm, .indexAddr t x y, ty, pos, af, gd⟩ :: r) ⟨n0, sl, ob⟩ Q := by
  have hal : a < es.length := (List.getElem?_eq_some_iff.1 hc).1
  rcases hs with h | h | ⟨h, rfl⟩ | ⟨g, h, ho⟩
  · exact wS_set rfl hn hg (n_indexAddrV (L := L) (ext := ext) h hi ht hu he hz hc) (hk _ _ (.inl rfl))
  · exact wS_set rfl hn hg (n_indexAddrL (L := L) (ext := ext) h hi ht hu he hz hc) (hk _ _ (.inl rfl))
  · simp at hal
  · exact wS_set rfl hn hg (n_indexAddrP (L := L) (ext := ext) h hi ho ht hu he hz hal) (hk _ _ (.inr ⟨_, _, _, _, _, _, rfl, ho, hc⟩))

theorem wS_loadS2 {t : TypeId} {T : TI} {tm : Tmp} {x : Operand} {c : List V} (he : EltX ob ((St.opd ⟨n0, sl, ob⟩) x) c) (ht : L.ti t = T) (hk : T.kd = 2) (hl : c.length = T.size) (hn : Nat.ble (tm + 1) n0 = true) (hg : guardX ops ⟨some tm, .load t x, ty, pos, af, gd⟩ ⟨n0, sl, ob⟩ = some true)
    (hq : ∀ rd, wpO L ext ops r ⟨n0, upd sl tm (.v (.agg c)), ob⟩ (fun p ρ' f => Q p ρ' ((rd, []) :: f))) : wpO L ext ops (⟨some tm, .load t x, ty, pos, af, gd⟩ :: r) ⟨n0, sl, ob⟩ Q := by
  rcases he with h | ⟨s, g, i, mt, z, es, h, ho, hc⟩
  · have := a_loadR2 (L := L) (ext := ext) (d := some tm) (ty := ty) (pos := pos) (af := af) (gd := gd) h ht hk (Nat.le_of_eq hl.symm)
    rw [← hl, List.take_of_length_le (Nat.le_refl _)] at this
    exact wS_set rfl hn hg this (hq _)
  · have := a_loadE2 (L := L) (ext := ext) (d := some tm) (ty := ty) (pos := pos) (af := af) (gd := gd) h ho hc ht hk (by rw [Nat.zero_add, hl]; exact Nat.le_refl _)
    rw [List.drop_zero, ← hl, List.take_of_length_le (Nat.le_refl _)] at this
    exact wS_set rfl hn hg this (hq _)
theorem wS_loadS1 {t : TypeId} {T : TI} {tm : Tmp} {x : Operand} {v : V} (he : EltX ob ((St.opd ⟨n0, sl, ob⟩) x) [v]) (ht : L.ti t = T) (hk : T.kd = 1) (hn : Nat.ble (tm + 1) n0 = true) (hg : guardX ops ⟨some tm, .load t x, ty, pos, af, gd⟩ ⟨n0, sl, ob⟩ = some true)
    (hq : ∀ rd, wpO L ext ops r ⟨n0, upd sl tm (.v v), ob⟩ (fun p ρ' f => Q p ρ' ((rd, []) :: f))) : wpO L ext ops (⟨some tm, .load t x, ty, pos, af, gd⟩ :: r) ⟨n0, sl, ob⟩ Q := by
  rcases he with h | ⟨s, g, i, mt, z, es, h, ho, hc⟩
  · exact wS_set rfl hn hg (a_loadR1 (L := L) (ext := ext) h ht hk rfl) (hq _)
  · exact wS_set rfl hn hg (a_loadE1 (L := L) (ext := ext) h ho hc ht hk rfl) (hq _)

/-- Something is appended to a slice that grows. -/
theorem wS_appS {ts : Array TypeId} {t e : TypeId} {T E : TI} {tm : Tmp} {x y : Operand} {z s' g' lo m : Nat} {mt' : Bool} {es es1 es2 : List (List V)} (hr : RowX z tm ob ((St.opd ⟨n0, sl, ob⟩) x) es) (hy : (St.opd ⟨n0, sl, ob⟩) y = .own s' g' lo m) (ho' : ob s' = .row g' mt' z es1) (hes : (es1.drop lo).take m = es2)
    (h0 : ts[0]? = some t) (ht : L.ti t = T) (hu : T.und = .slice e) (he : L.ti e = E) (hty : srcTy L ts[1]? = true) (hzs : E.zero.isSome = true) (hz : z = E.size) (hb : es.length + es2.length ≤ big) (hby : Nat.ble E.bytes 1024 = true) (hne : es2 ≠ [])
    (hn : Nat.ble (tm + 1) n0 = true) (hg : guardX ops ⟨some tm, .call { callee := .builtin .append, args := #[x, y], argTypes := ts }, ty, pos, af, gd⟩ ⟨n0, sl, ob⟩ = some true)
    (hk : ∀ g rd, wpO L ext ops r ⟨n0, upd sl tm (.own tm g 0 (es ++ es2).length), upd ob tm (.row g true z (es ++ es2))⟩ (fun p ρ' f => Q p ρ' ((rd, [tm]) :: f))) :
    wpO L ext ops (⟨some tm, .call { callee := .builtin .append, args := #[x, y], argTypes := ts }, ty, pos, af, gd⟩ :: r) ⟨n0, sl, ob⟩ Q := by
  rcases hr with ⟨h, rfl⟩ | ⟨hne0, g, h, ho⟩
  · have := hk ((ob tm).gen + 1) ([s'] ++ [tm])
    simp only [List.nil_append] at this
    rw [hz] at this
    exact wS_set rfl hn hg (a_appendNO (L := L) (ext := ext) h hy ho' hes h0 ht hu he hty hzs hz (by simp at hb; omega) hby hne hn) this
  · have := hk (g + 1) ([s'] ++ [tm])
    rw [List.length_append] at this
    exact wS_set rfl hn hg (a_appendOO (L := L) (ext := ext) h ho hy ho' hes h0 ht hu he hty hzs hz rfl rfl hb hby) this

/-- What is kept of the contents of some slots, in turn. -/
inductive KeptL : (Nat → Ob) → List X → List V → (Nat → Ob) → Prop
  | nil {H : Nat → Ob} : KeptL H [] [] H
  | cons {H H1 H2 : Nat → Ob} {x : X} {v : V} {xs : List X} {vs : List V} (h : Kept H x v H1) (r : KeptL H1 xs vs H2) : KeptL H (x :: xs) (v :: vs) H2
theorem KeptL.frzs {α : Type} {H H1 : Nat → Ob} {xs : List X} {vs : List V} (h : KeptL H xs vs H1) : ∀ {k : List V → Ef α} {o : α} {H2 : Nat → Ob}, (∃ a b, (k vs).run H1 = some (o, H2, a, b)) → ∃ a b, (frzs xs k).run H = some (o, H2, a, b) := by
  induction h with
  | nil => intro k o H2 hk; exact hk
  | cons h r ih => intro k o H2 hk; exact h.frz (ih (k := fun ys => k (_ :: ys)) hk)

theorem wS_build {t : TypeId} {T : TI} {tm : Tmp} {ps : Array (Nat × Operand)} {fs : Array Field} {zx : List X} {zero ys cs : List V} {ob' : Nat → Ob} (hp : KeptL ob (ps.toList.map fun p => (St.opd ⟨n0, sl, ob⟩) p.2) ys ob') (ht : L.ti t = T) (hu : T.und = .struct fs) (hz : T.zero = some zx) (hv : xvs zx = some zero)
    (hf : fillV (fun i => (fs[i]?).map fun f => (f.offset, (L.ti f.type).size)) zero ((ps.toList.map (·.1)).zip ys) = some cs) (hn : Nat.ble (tm + 1) n0 = true) (hg : guardX ops ⟨some tm, .build t ps, ty, pos, af, gd⟩ ⟨n0, sl, ob⟩ = some true)
    (hk : ∀ rd wr, wpO L ext ops r ⟨n0, upd sl tm (.v (.agg cs)), ob'⟩ (fun p ρ' f => Q p ρ' ((rd, wr) :: f))) : wpO L ext ops (⟨some tm, .build t ps, ty, pos, af, gd⟩ :: r) ⟨n0, sl, ob⟩ Q := by
  subst ht
  obtain ⟨a, b, h⟩ := hp.frzs (k := fun ys => (match (L.ti t).und with
    | .struct fs => ov (fillV (fun i => (fs[i]?).map fun f => (f.offset, (L.ti f.type).size)) zero ((ps.toList.map (·.1)).zip ys)) fun cs => okv (.agg cs)
    | .array _ e => ov (fillV (fun i => some (i * (L.ti e).size, (L.ti e).size)) zero ((ps.toList.map (·.1)).zip ys)) fun cs => okv (.agg cs)
    | _ => .fail)) (o := .val (.v (.agg cs))) (H2 := ob') ⟨[], [], by rw [hu]; simp only [hf, ov, Ef.run]⟩
  have ha : ActEv L ext ⟨some tm, .build t ps, ty, pos, af, gd⟩ ⟨n0, sl, ob⟩ (.v (.agg cs)) ob' a b := by
    refine ⟨0, fun k _ => ?_⟩
    have e1 : ((ps.toList.map fun p => (p.1, (St.opd ⟨n0, sl, ob⟩) p.2)).map (·.2)) = ps.toList.map fun p => (St.opd ⟨n0, sl, ob⟩) p.2 := by simp [List.map_map, Function.comp_def]
    have e2 : ((ps.toList.map fun p => (p.1, (St.opd ⟨n0, sl, ob⟩) p.2)).map (·.1)) = ps.toList.map (·.1) := by simp [List.map_map, Function.comp_def]
    simp only [act, actBuild, hz, hv, ov]
    rw [e1, e2]
    exact h
  exact wS_set rfl hn hg ha (hk _ _)
/-- A struct built of data alone. -/
theorem a_build {t : TypeId} {T : TI} {ps : Array (Nat × Operand)} {fs : Array Field} {zx : List X} {zero ys cs : List V} (hp : ps.toList.map (fun p => (St.opd ⟨n0, sl, ob⟩) p.2) = ys.map X.v) (ht : L.ti t = T) (hu : T.und = .struct fs) (hz : T.zero = some zx) (hv : xvs zx = some zero)
    (hf : fillV (fun i => (fs[i]?).map fun f => (f.offset, (L.ti f.type).size)) zero ((ps.toList.map (·.1)).zip ys) = some cs) : ActEv L ext ⟨d, .build t ps, ty, pos, af, gd⟩ ⟨n0, sl, ob⟩ (.v (.agg cs)) ob [] [] := by
  subst ht
  have hfr : ∀ (ys : List V) (k : List V → Ef Outc), frzs (ys.map X.v) k = k ys := by
    intro ys
    induction ys with
    | nil => intro k; rfl
    | cons y ys ih => intro k; simp only [List.map_cons, frzs, frz]; rw [ih]
  refine ⟨0, fun k _ => ?_⟩
  have e1 : ((ps.toList.map fun p => (p.1, (St.opd ⟨n0, sl, ob⟩) p.2)).map (·.2)) = ys.map X.v := by rw [← hp]; simp [List.map_map, Function.comp_def]
  have e2 : ((ps.toList.map fun p => (p.1, (St.opd ⟨n0, sl, ob⟩) p.2)).map (·.1)) = ps.toList.map (·.1) := by simp [List.map_map, Function.comp_def]
  simp only [act, actBuild, hz, hv, ov]
  rw [e1, e2, hfr, hu]
  simp only [hf, ov, Ef.run]

/-! ### whole numbers of either sign -/
variable {t yt : TypeId} {x y : Operand} {k : IntKind} {a b : Int}
theorem iwrap {n : Int} (h : -9223372036854775808 ≤ n ∧ n ≤ 9223372036854775807) : IntKind.i64.wrap n = n := by
  simp [IntKind.wrap, IntKind.bits, IntKind.signed]; omega
theorem i_add (hx : (St.opd ⟨n0, sl, ob⟩) x = .v (.lit (.int .i64 a))) (hy : (St.opd ⟨n0, sl, ob⟩) y = .v (.lit (.int .i64 b))) (h : -9223372036854775808 ≤ a + b ∧ a + b ≤ 9223372036854775807) : ActEv L ext ⟨d, .binOp .add t x y yt, ty, pos, af, gd⟩ ⟨n0, sl, ob⟩ (.v (.lit (.int .i64 (a + b)))) ob [] [] :=
  a_bin hx hy (by simp [litBin, intOp, iwrap h])
theorem i_sub (hx : (St.opd ⟨n0, sl, ob⟩) x = .v (.lit (.int .i64 a))) (hy : (St.opd ⟨n0, sl, ob⟩) y = .v (.lit (.int .i64 b))) (h : -9223372036854775808 ≤ a - b ∧ a - b ≤ 9223372036854775807) : ActEv L ext ⟨d, .binOp .sub t x y yt, ty, pos, af, gd⟩ ⟨n0, sl, ob⟩ (.v (.lit (.int .i64 (a - b)))) ob [] [] :=
  a_bin hx hy (by simp [litBin, intOp, iwrap h])
theorem i_lss {p : Bool} (hx : (St.opd ⟨n0, sl, ob⟩) x = .v (.lit (.int k a))) (hy : (St.opd ⟨n0, sl, ob⟩) y = .v (.lit (.int k b))) (h : decide (a < b) = p) : ActEv L ext ⟨d, .binOp .lss t x y yt, ty, pos, af, gd⟩ ⟨n0, sl, ob⟩ (.v (.lit (.bool p))) ob [] [] :=
  a_bin hx hy (by simp [litBin, intOp, cmpI, ← h])
theorem i_leq {p : Bool} (hx : (St.opd ⟨n0, sl, ob⟩) x = .v (.lit (.int k a))) (hy : (St.opd ⟨n0, sl, ob⟩) y = .v (.lit (.int k b))) (h : decide (a ≤ b) = p) : ActEv L ext ⟨d, .binOp .leq t x y yt, ty, pos, af, gd⟩ ⟨n0, sl, ob⟩ (.v (.lit (.bool p))) ob [] [] :=
  a_bin hx hy (by simp [litBin, intOp, cmpI, ← h])
theorem i_gtr {p : Bool} (hx : (St.opd ⟨n0, sl, ob⟩) x = .v (.lit (.int k a))) (hy : (St.opd ⟨n0, sl, ob⟩) y = .v (.lit (.int k b))) (h : decide (a > b) = p) : ActEv L ext ⟨d, .binOp .gtr t x y yt, ty, pos, af, gd⟩ ⟨n0, sl, ob⟩ (.v (.lit (.bool p))) ob [] [] :=
  a_bin hx hy (by simp [litBin, intOp, cmpI, ← h])
theorem i_geq {p : Bool} (hx : (St.opd ⟨n0, sl, ob⟩) x = .v (.lit (.int k a))) (hy : (St.opd ⟨n0, sl, ob⟩) y = .v (.lit (.int k b))) (h : decide (a ≥ b) = p) : ActEv L ext ⟨d, .binOp .geq t x y yt, ty, pos, af, gd⟩ ⟨n0, sl, ob⟩ (.v (.lit (.bool p))) ob [] [] :=
  a_bin hx hy (by simp [litBin, intOp, cmpI, ← h])
theorem i_eql {p : Bool} (hx : (St.opd ⟨n0, sl, ob⟩) x = .v (.lit (.int k a))) (hy : (St.opd ⟨n0, sl, ob⟩) y = .v (.lit (.int k b))) (h : decide (a = b) = p) : ActEv L ext ⟨d, .binOp .eql t x y yt, ty, pos, af, gd⟩ ⟨n0, sl, ob⟩ (.v (.lit (.bool p))) ob [] [] :=
  a_bin hx hy (by simp [litBin, intOp, cmpI, ← h]; rfl)
theorem i_neq {p : Bool} (hx : (St.opd ⟨n0, sl, ob⟩) x = .v (.lit (.int k a))) (hy : (St.opd ⟨n0, sl, ob⟩) y = .v (.lit (.int k b))) (h : decide (a ≠ b) = p) : ActEv L ext ⟨d, .binOp .neq t x y yt, ty, pos, af, gd⟩ ⟨n0, sl, ob⟩ (.v (.lit (.bool p))) ob [] [] :=
  a_bin hx hy (by subst h; by_cases e : a = b <;> simp [litBin, intOp, cmpI, e])
end
end Go.Dv

namespace Go.Dv
open Go

inductive Rx where
  | mk (k : Int) (s : List Nat) (l : List Rx)

namespace Rx
def k : Rx → Int | .mk k _ _ => k
def s : Rx → List Nat | .mk _ s _ => s
def l : Rx → List Rx | .mk _ _ l => l
end Rx
mutual
def rxC : Rx → List V
  | .mk k s l => V.lit (.int .i64 k) :: (s.map word ++ [V.sl 6 (rxRows l)])
def rxRows : List Rx → List (List V)
  | [] => []
  | r :: l => rxC r :: rxRows l
end
def rxV (r : Rx) : V := .agg (rxC r)

theorem rxRows_map : ∀ l : List Rx, rxRows l = l.map rxC
  | [] => by rw [rxRows]; rfl
  | r :: l => by rw [rxRows, rxRows_map l]; rfl
theorem rxC_eq (r : Rx) : rxC r = V.lit (.int .i64 r.k) :: (r.s.map word ++ [V.sl 6 (rxRows r.l)]) := by
  cases r with
  | mk k s l => rw [rxC]; rfl
theorem rxRows_len (l : List Rx) : (rxRows l).length = l.length := by rw [rxRows_map, List.length_map]
theorem rxRows_get {l : List Rx} {i : Nat} {r : Rx} (h : l[i]? = some r) : (rxRows l)[i]? = some (rxC r) := by rw [rxRows_map, List.getElem?_map, h]; rfl
theorem rxRows_app (l m : List Rx) : rxRows (l ++ m) = rxRows l ++ rxRows m := by simp [rxRows_map]
theorem rxRows_drop (l : List Rx) (i : Nat) : rxRows (l.drop i) = (rxRows l).drop i := by simp [rxRows_map, List.map_drop]
theorem rxRows_one (r : Rx) : rxRows [r] = [rxC r] := by simp [rxRows_map]
theorem rxRows_cons (r : Rx) (l : List Rx) : rxRows (r :: l) = rxC r :: rxRows l := by simp [rxRows_map]
theorem rxRows_nil_iff {l : List Rx} : rxRows l = [] ↔ l = [] := by rw [rxRows_map, List.map_eq_nil_iff]

/-- What holds of all expressions that come in: sets are four words, kinds fit, lists are not too long. -/
inductive Rx.wf (B : Nat) : Rx → Prop
  | mk {k : Int} {s : List Nat} {l : List Rx} (hk : -9223372036854775808 ≤ k ∧ k ≤ 9223372036854775807) (hs : isW s) (hl : l.length ≤ B) (h : ∀ r ∈ l, Rx.wf B r) : Rx.wf B (.mk k s l)
theorem Rx.wf.kind {B : Nat} {r : Rx} (h : r.wf B) : -9223372036854775808 ≤ r.k ∧ r.k ≤ 9223372036854775807 := by cases h; assumption
theorem Rx.wf.set {B : Nat} {r : Rx} (h : r.wf B) : isW r.s := by cases h; assumption
theorem Rx.wf.len {B : Nat} {r : Rx} (h : r.wf B) : r.l.length ≤ B := by cases h; assumption
theorem Rx.wf.kids {B : Nat} {r : Rx} (h : r.wf B) : ∀ x ∈ r.l, x.wf B := by cases h; assumption
theorem Rx.wf.at {B : Nat} {r x : Rx} {i : Nat} (h : r.wf B) (hx : r.l[i]? = some x) : x.wf B := h.kids x (List.mem_of_getElem? hx)
theorem rxC_len {B : Nat} {r : Rx} (h : r.wf B) : (rxC r).length = 6 := by
  rw [rxC_eq, List.length_cons, List.length_append, List.length_map, h.set.1]; rfl
theorem Rx.eta (r : Rx) : r = .mk r.k r.s r.l := by cases r; rfl

theorem Rx.ind {P : Rx → Prop} (h : ∀ k s l, (∀ r ∈ l, P r) → P (.mk k s l)) : ∀ r, P r
  | .mk k s l => h k s l fun r hr => Rx.ind h r
termination_by r => SizeOf.sizeOf r
decreasing_by
  have := List.sizeOf_lt_of_mem hr
  simp_wf
  omega

theorem Rx.ind' {P : Rx → Prop} (h : ∀ r : Rx, (∀ x ∈ r.l, P x) → P r) : ∀ r, P r := Rx.ind fun k s l ih => h (.mk k s l) ih

/-- The cells of a box that holds an expression. -/
abbrev rxB (r : Rx) : List X := (rxC r).map X.v
theorem rxB_eq (r : Rx) : rxB r = .v (.lit (.int .i64 r.k)) :: (cells r.s ++ [.v (.sl 6 (rxRows r.l))]) := by
  unfold rxB; rw [rxC_eq]; simp [cells]
theorem rxB_len {B : Nat} {r : Rx} (h : r.wf B) : (rxB r).length = 6 := by unfold rxB; rw [List.length_map]; exact rxC_len h
theorem rxB_vs (r : Rx) : xvs (rxB r) = some (rxC r) := by
  unfold rxB
  generalize rxC r = l
  induction l with
  | nil => rfl
  | cons a l ih => simp only [List.map_cons, xvs, xv, ih]
theorem rxB_all {B : Nat} {r : Rx} (h : r.wf B) : xvs (((rxB r).drop 0).take 6) = some (rxC r) := by
  rw [List.drop_zero, List.take_of_length_le (Nat.le_of_eq (rxB_len h))]; exact rxB_vs r

section
variable {L : Lite} {ext : Ext} {ops : Array Oper} {n0 : Nat} {sl : Nat → X} {ob : Nat → Ob} {d : Option Tmp} {ty : TypeId} {pos : String} {af : Array Edge} {gd : Option (Nat × Bool)} {B : Nat}

theorem a_boxRx {s : Tmp} {t : TypeId} {T : TI} {x : Operand} {r : Rx} (hw : r.wf B) (hx : (St.opd ⟨n0, sl, ob⟩) x = .v (rxV r)) (ht : L.ti t = T) (hk : T.kd = 2) (hl : T.size = 6) (hn : Nat.ble (s + 1) n0 = true) :
    ActEv L ext ⟨some s, .box t x, ty, pos, af, gd⟩ ⟨n0, sl, ob⟩ (.addr s ((ob s).gen + 1) 0) (upd ob s (.box ((ob s).gen + 1) (rxB r))) [s] [s] :=
  a_box2 hx ht hk (by rw [hl]; exact rxC_len hw) hn
theorem a_storeRx {t : TypeId} {T : TI} {x y : Operand} {s g : Nat} {cs : List X} {r : Rx} (hw : r.wf B) (hx : (St.opd ⟨n0, sl, ob⟩) x = .addr s g 0) (hy : (St.opd ⟨n0, sl, ob⟩) y = .v (rxV r)) (ho : ob s = .box g cs) (hc : cs.length = 6) (ht : L.ti t = T) (hk : T.kd = 2)
    (hl : T.size = 6) : ActEv L ext ⟨d, .store t x y, ty, pos, af, gd⟩ ⟨n0, sl, ob⟩ .undef (upd ob s (.box g (rxB r))) [s] [s] := by
  have h6 := rxC_len hw
  have := a_store2 (L := L) (ext := ext) (d := d) (ty := ty) (pos := pos) (af := af) (gd := gd) hx hy ho ht hk (by rw [hl]; exact h6) (by rw [hc, h6]; exact Nat.le_refl _)
  have e : setRange cs 0 ((rxC r).map X.v) = rxB r := by
    unfold rxB
    generalize rxC r = l at h6
    match cs, l, hc, h6 with
    | [_, _, _, _, _, _], [_, _, _, _, _, _], _, _ => rfl
  rwa [e] at this
theorem a_loadRx {t : TypeId} {T : TI} {x : Operand} {s g : Nat} {r : Rx} (hw : r.wf B) (hx : (St.opd ⟨n0, sl, ob⟩) x = .addr s g 0) (ho : ob s = .box g (rxB r)) (ht : L.ti t = T) (hk : T.kd = 2) (hl : T.size = 6) :
    ActEv L ext ⟨d, .load t x, ty, pos, af, gd⟩ ⟨n0, sl, ob⟩ (.v (rxV r)) ob [s] [] :=
  a_load2 hx ho ht hk (by rw [hl, rxB_len hw]; exact Nat.le_refl _) (by rw [hl]; exact rxB_all hw)
theorem a_loadRxR {t : TypeId} {T : TI} {x : Operand} {r : Rx} (hw : r.wf B) (hx : (St.opd ⟨n0, sl, ob⟩) x = .ro (rxC r)) (ht : L.ti t = T) (hk : T.kd = 2) (hl : T.size = 6) :
    ActEv L ext ⟨d, .load t x, ty, pos, af, gd⟩ ⟨n0, sl, ob⟩ (.v (rxV r)) ob [] [] := by
  have h6 := rxC_len hw
  have := a_loadR2 (L := L) (ext := ext) (d := d) (ty := ty) (pos := pos) (af := af) (gd := gd) hx ht hk (by rw [hl, h6]; exact Nat.le_refl _)
  rw [hl, List.take_of_length_le (Nat.le_of_eq h6)] at this
  exact this
theorem a_loadK {t : TypeId} {T : TI} {x : Operand} {s g : Nat} {r : Rx} (hx : (St.opd ⟨n0, sl, ob⟩) x = .addr s g 0) (ho : ob s = .box g (rxB r)) (ht : L.ti t = T) (hk : T.kd = 1) :
    ActEv L ext ⟨d, .load t x, ty, pos, af, gd⟩ ⟨n0, sl, ob⟩ (.v (.lit (.int .i64 r.k))) ob [s] [] :=
  a_load1 hx ho ht hk (by rw [rxB_eq]; rfl)
theorem a_loadKids {t : TypeId} {T : TI} {x : Operand} {s g : Nat} {r : Rx} (hw : r.wf B) (hx : (St.opd ⟨n0, sl, ob⟩) x = .addr s g 5) (ho : ob s = .box g (rxB r)) (ht : L.ti t = T) (hk : T.kd = 1) :
    ActEv L ext ⟨d, .load t x, ty, pos, af, gd⟩ ⟨n0, sl, ob⟩ (.v (.sl 6 (rxRows r.l))) ob [s] [] :=
  a_load1 hx ho ht hk (by
    rw [rxB_eq]
    have h4 := cells_len hw.set
    generalize cells r.s = c at h4
    match c, h4 with
    | [_, _, _, _], _ => rfl)
theorem a_loadSet {t : TypeId} {T : TI} {x : Operand} {s g : Nat} {r : Rx} (hw : r.wf B) (hx : (St.opd ⟨n0, sl, ob⟩) x = .addr s g 1) (ho : ob s = .box g (rxB r)) (ht : L.ti t = T) (hk : T.kd = 2) (hl : T.size = 4) :
    ActEv L ext ⟨d, .load t x, ty, pos, af, gd⟩ ⟨n0, sl, ob⟩ (.v (setV r.s)) ob [s] [] :=
  a_load2 hx ho ht hk (by rw [hl, rxB_len hw]; decide) (by
    rw [hl, rxB_eq]
    have h4 := cells_len hw.set
    have hv := cells_vs r.s
    generalize cells r.s = c at h4 hv
    match c, h4 with
    | [_, _, _, _], _ => exact hv)
theorem n_kid {t e : TypeId} {T E : TI} {x y : Operand} {k : IntKind} {a : Nat} {l : List Rx} {r : Rx} (hr : l[a]? = some r) (hx : (St.opd ⟨n0, sl, ob⟩) x = .v (.sl 6 (rxRows l))) (hi : (St.opd ⟨n0, sl, ob⟩) y = .v (.lit (.int k (a : Int)))) (ht : L.ti t = T) (hu : T.und = .slice e) (he : L.ti e = E) (hz : E.size = 6) :
    ActEv L ext ⟨d, .indexAddr t x y, ty, pos, af, gd⟩ ⟨n0, sl, ob⟩ (.ro (rxC r)) ob [] [] :=
  n_indexAddrV hx hi ht hu he hz.symm (rxRows_get hr)
theorem a_lenK {x : Operand} {ts : Array TypeId} {t e : TypeId} {T : TI} {l : List Rx} (hx : (St.opd ⟨n0, sl, ob⟩) x = .v (.sl 6 (rxRows l))) (h0 : ts[0]? = some t) (ht : L.ti t = T) (hu : T.und = .slice e) :
    ActEv L ext ⟨d, .call { callee := .builtin .len, args := #[x], argTypes := ts }, ty, pos, af, gd⟩ ⟨n0, sl, ob⟩ (.v (natV l.length)) ob [] [] := by
  have := a_lenV (L := L) (ext := ext) (d := d) (ty := ty) (pos := pos) (af := af) (gd := gd) hx h0 ht hu
  rwa [rxRows_len] at this
end

/-- Data of the type of expressions is an expression. -/
theorem typed_rx {P : Program} {tr ts tk ti tw : TypeId} {fs : Array Field} (hr : P.underlying tr = some (.struct fs)) (hk : P.underlying tk = some (.slice tr)) (hi : P.underlying ti = some (.int .i64)) (hst : P.underlying ts = some (.array 4 tw)) (hw : P.underlying tw = some (.int .u64))
    (hfs : fs.toList.map (fun f => (f.type, f.offset)) = [(ti, 0), (ts, 1), (tk, 5)]) (c1 : P.cellsOf ti = 1) (c2 : P.cellsOf ts = 4) (c3 : P.cellsOf tk = 1) (c4 : P.cellsOf tr = 6) (c5 : P.cellsOf tw = 1) {t : TypeId} {cs : List V} (h : Typed P t cs) :
    (t = tr → ∃ r : Rx, r.wf maxLen ∧ cs = rxC r) ∧ (t = tk → ∃ l : List Rx, l.length ≤ maxLen ∧ (∀ r ∈ l, r.wf maxLen) ∧ cs = [.sl 6 (rxRows l)]) ∧
    (t = ti → ∃ n : Int, (-9223372036854775808 ≤ n ∧ n ≤ 9223372036854775807) ∧ cs = [.lit (.int .i64 n)]) ∧ (t = tw → ∃ n : Nat, n < 2 ^ 64 ∧ cs = [word n]) ∧ (t = ts → ∃ W, isW W ∧ cs = W.map word) := by
  induction h with
  | bool h b => refine ⟨?_, ?_, ?_, ?_, ?_⟩ <;> rintro rfl <;> simp_all
  | string h s hs => refine ⟨?_, ?_, ?_, ?_, ?_⟩ <;> rintro rfl <;> simp_all
  | @int t k h n hwf =>
    refine ⟨?_, ?_, ?_, ?_, ?_⟩
    · rintro rfl; rw [hr] at h; cases h
    · rintro rfl; rw [hk] at h; cases h
    · rintro rfl; rw [hi] at h; cases h
      have : -9223372036854775808 ≤ n ∧ n ≤ 9223372036854775807 := by simpa [Lit.wf, IntKind.min, IntKind.max, IntKind.signed, IntKind.bits] using hwf
      exact ⟨n, this, rfl⟩
    · rintro rfl; rw [hw] at h; cases h
      have : 0 ≤ n ∧ n ≤ 18446744073709551615 := by simpa [Lit.wf, IntKind.min, IntKind.max, IntKind.signed, IntKind.bits] using hwf
      exact ⟨n.toNat, by omega, by rw [word, Int.toNat_of_nonneg this.1]⟩
    · rintro rfl; rw [hst] at h; cases h
  | @slice t e h es hl hrow ih =>
    refine ⟨?_, ?_, ?_, ?_, ?_⟩
    · rintro rfl; rw [hr] at h; cases h
    · rintro rfl; rw [hk] at h; cases h
      rw [c4]
      have : ∀ es : List (List V), (∀ row ∈ es, ∃ r : Rx, r.wf maxLen ∧ row = rxC r) → ∃ l : List Rx, l.length = es.length ∧ (∀ r ∈ l, r.wf maxLen) ∧ es = rxRows l := by
        intro es
        induction es with
        | nil => intro _; exact ⟨[], rfl, fun r h => by simp at h, by rw [rxRows]⟩
        | cons a es ih2 =>
          intro hh
          obtain ⟨r, h1, rfl⟩ := hh a List.mem_cons_self
          obtain ⟨l, h2, h3, rfl⟩ := ih2 fun row hrow => hh row (List.mem_cons_of_mem _ hrow)
          refine ⟨r :: l, by simp [h2], fun x hx => ?_, by rw [rxRows]⟩
          rcases List.mem_cons.1 hx with rfl | hx
          · exact h1
          · exact h3 x hx
      obtain ⟨l, h1, h2, rfl⟩ := this es fun row hrow => (ih row hrow).1 rfl
      exact ⟨l, by rw [rxRows_len] at hl; exact hl, h2, rfl⟩
    · rintro rfl; rw [hi] at h; cases h
    · rintro rfl; rw [hw] at h; cases h
    · rintro rfl; rw [hst] at h; cases h
  | @struct t fs' h cs hl hrow ih =>
    refine ⟨?_, ?_, ?_, ?_, ?_⟩
    · rintro rfl; rw [hr] at h; cases h
      rw [c4] at hl
      have fld : ∀ p ∈ [(ti, 0), (ts, 1), (tk, 5)], ∃ f ∈ fs.toList, f.type = p.1 ∧ f.offset = p.2 := by
        intro p hp
        rw [← hfs] at hp
        obtain ⟨f, hf, rfl⟩ := List.mem_map.1 hp
        exact ⟨f, hf, rfl, rfl⟩
      obtain ⟨f1, m1, t1, o1⟩ := fld (ti, 0) (by simp)
      obtain ⟨f2, m2, t2, o2⟩ := fld (ts, 1) (by simp)
      obtain ⟨f3, m3, t3, o3⟩ := fld (tk, 5) (by simp)
      obtain ⟨n, hn, e1⟩ := (ih f1 m1).2.2.1 t1
      obtain ⟨W, hW, e2⟩ := (ih f2 m2).2.2.2.2 t2
      obtain ⟨l, hl1, hl2, e3⟩ := (ih f3 m3).2.1 t3
      rw [t1, o1, c1] at e1
      rw [t2, o2, c2] at e2
      rw [t3, o3, c3] at e3
      refine ⟨.mk n W l, .mk hn hW hl1 hl2, ?_⟩
      rw [rxC]
      match cs, hl with
      | [a, b, c, d, e, f], _ =>
        simp at e1 e2 e3
        rw [e1, e3, ← e2]
        rfl
    · rintro rfl; rw [hk] at h; cases h
    · rintro rfl; rw [hi] at h; cases h
    · rintro rfl; rw [hw] at h; cases h
    · rintro rfl; rw [hst] at h; cases h
  | @array t e n h cs hl hrow ih =>
    refine ⟨?_, ?_, ?_, ?_, ?_⟩
    · rintro rfl; rw [hr] at h; cases h
    · rintro rfl; rw [hk] at h; cases h
    · rintro rfl; rw [hi] at h; cases h
    · rintro rfl; rw [hw] at h; cases h
    · rintro rfl; rw [hst] at h; cases h
      rw [c5] at hl ih
      match cs, hl with
      | [a, b, c, d], _ =>
        obtain ⟨w0, k0, e0⟩ := (ih 0 (by omega)).2.2.2.1 rfl
        obtain ⟨w1, k1, e1⟩ := (ih 1 (by omega)).2.2.2.1 rfl
        obtain ⟨w2, k2, e2⟩ := (ih 2 (by omega)).2.2.2.1 rfl
        obtain ⟨w3, k3, e3⟩ := (ih 3 (by omega)).2.2.2.1 rfl
        simp at e0 e1 e2 e3
        refine ⟨[w0, w1, w2, w3], ⟨rfl, fun i => ?_⟩, by rw [e0, e1, e2, e3]; rfl⟩
        match i with
        | 0 => exact k0
        | 1 => exact k1
        | 2 => exact k2
        | 3 => exact k3
        | i + 4 => exact (by decide : (0 : Nat) < 2 ^ 64)
end Go.Dv

namespace Go.Dv
open Go

theorem eqCells_words : ∀ {A B : List Nat}, A.length = B.length → eqCells (A.map word) (B.map word) = some (decide (A = B))
  | [], [], _ => rfl
  | [], _ :: _, h => by simp at h
  | _ :: _, [], h => by simp at h
  | a :: A, b :: B, h => by
    have ih := eqCells_words (A := A) (B := B) (by simpa using h)
    have e : eqCell (word a) (word b) = some (decide (a = b)) := by
      have : ((a : Int) == (b : Int)) = decide (a = b) := natBeq a b
      simp [eqCell, word, this]
    simp only [List.map_cons, eqCells, e, ih]
    congr 1
    by_cases h1 : a = b <;> by_cases h2 : A = B <;> simp [h1, h2]

section
variable {L : Lite} {ext : Ext} {ops : Array Oper} {n0 : Nat} {sl : Nat → X} {ob : Nat → Ob} {d : Option Tmp} {ty : TypeId} {pos : String} {af : Array Edge} {gd : Option (Nat × Bool)} {t yt : TypeId} {x y : Operand}
theorem a_build0 {T : TI} {zx : List X} {zero : List V} (ht : L.ti t = T) (hz : T.zero = some zx) (hv : xvs zx = some zero) (hk : T.kd = 2) (hu : (match T.und with | .struct _ => true | .array _ _ => true | _ => false) = true) : ActEv L ext ⟨d, .build t #[], ty, pos, af, gd⟩ ⟨n0, sl, ob⟩ (.v (.agg zero)) ob [] [] := by
  subst ht
  refine ⟨0, fun k _ => ?_⟩
  simp only [act, actBuild, hz, hv, ov, List.map_nil, frzs]
  split at hu
  · rename_i h; simp [h, fillV, ov, Ef.run]
  · rename_i h; simp [h, fillV, ov, Ef.run]
  · cases hu
theorem a_binBe {T : TI} {a b p : Bool} (hx : (St.opd ⟨n0, sl, ob⟩) x = .v (.lit (.bool a))) (hy : (St.opd ⟨n0, sl, ob⟩) y = .v (.lit (.bool b))) (ht : L.ti t = T) (hu : T.und = .bool) (h : (a == b) = p) :
    ActEv L ext ⟨d, .binOp .eql t x y yt, ty, pos, af, gd⟩ ⟨n0, sl, ob⟩ (.v (.lit (.bool p))) ob [] [] := h ▸ a_binB hx hy ht hu rfl
theorem kindsW {W : List Nat} (h : isW W) : (W.map word).map litK = [1, 1, 1, 1] := by
  obtain ⟨h, _⟩ := h
  match W, h with
  | [a, b, c, d], _ => rfl
theorem a_eqSet {P Q : List Nat} {p : Bool} (hP : isW P) (hQ : isW Q) (h : decide (P = Q) = p) (he : L.eqt.lookup t = some [1, 1, 1, 1]) (hx : (St.opd ⟨n0, sl, ob⟩) x = .v (setV P)) (hy : (St.opd ⟨n0, sl, ob⟩) y = .v (setV Q)) :
    ActEv L ext ⟨d, .binOp .eql t x y yt, ty, pos, af, gd⟩ ⟨n0, sl, ob⟩ (.v (.lit (.bool p))) ob [] [] :=
  h ▸ a_eqAgg hx hy (by rw [kindsW hP]; exact he) (by rw [kindsW hP, kindsW hQ]) (eqCells_words (hP.1.trans hQ.1.symm))
theorem a_neSet {P Q : List Nat} {p : Bool} (hP : isW P) (hQ : isW Q) (h : decide (P = Q) = p) (he : L.eqt.lookup t = some [1, 1, 1, 1]) (hx : (St.opd ⟨n0, sl, ob⟩) x = .v (setV P)) (hy : (St.opd ⟨n0, sl, ob⟩) y = .v (setV Q)) :
    ActEv L ext ⟨d, .binOp .neq t x y yt, ty, pos, af, gd⟩ ⟨n0, sl, ob⟩ (.v (.lit (.bool !p))) ob [] [] :=
  h ▸ a_neAgg hx hy (by rw [kindsW hP]; exact he) (by rw [kindsW hP, kindsW hQ]) (eqCells_words (hP.1.trans hQ.1.symm))
end

/-- A block behind which it is said what holds. -/
theorem wC_blockI {L : Lite} {ext : Ext} {id : Nat} {c : Code} {ρ : St} {QC : Ex → St → Prop} (I : St → Prop)
    (h1 : wpC L ext c ρ (fun e ρ' => match e with | .normal => I ρ' | .exit i => if i = id then I ρ' else QC (.exit i) ρ' | e => QC e ρ')) (h2 : ∀ ρ', I ρ' → QC .normal ρ') : wpC L ext (.block id c) ρ QC := by
  refine wC_block (wpC_mono h1 fun e ρ' h => ?_)
  cases e with
  | normal => exact h2 _ h
  | exit i =>
    simp only at h ⊢
    split at h
    · rename_i e; rw [if_pos e]; exact h2 _ h
    · rename_i e; rw [if_neg e]; exact h
  | ret => exact h
  | pan v => exact h

/-! ### sizes -/
mutual
def shal : Rx → Nat → Int → Int
  | .mk _ _ l, lv, left => if 50 < lv ∨ left ≤ 0 then -1 else shals l lv (left - 1)
def shals : List Rx → Nat → Int → Int
  | [], _, left => left
  | r :: l, lv, left => if left < 0 then left else shals l lv (shal r (lv + 1) left)
end
theorem shal_eq (r : Rx) (lv : Nat) (left : Int) : shal r lv left = if 50 < lv ∨ left ≤ 0 then -1 else shals r.l lv (left - 1) := by
  cases r; rw [shal]; rfl
theorem shals_neg {l : List Rx} {lv : Nat} {left : Int} (h : left < 0) : shals l lv left = left := by
  cases l with
  | nil => rw [shals]
  | cons r l => rw [shals, if_pos h]
theorem shals_step {l : List Rx} {i lv : Nat} {r : Rx} {left : Int} (h : l[i]? = some r) (h0 : 0 ≤ left) : shals (l.drop i) lv left = shals (l.drop (i + 1)) lv (shal r (lv + 1) left) := by
  obtain ⟨hi, rfl⟩ := List.getElem?_eq_some_iff.1 h
  rw [List.drop_eq_getElem_cons hi, shals, if_neg (by omega)]

theorem shal_le : ∀ (r : Rx) (lv : Nat) (left : Int), -1 ≤ shal r lv left ∧ (shal r lv left = -1 ∨ shal r lv left < left) := by
  intro r
  induction r using Rx.ind with
  | h k s l ih =>
    intro lv left
    have key : ∀ (l : List Rx), (∀ r ∈ l, ∀ (lv : Nat) (left : Int), -1 ≤ shal r lv left ∧ (shal r lv left = -1 ∨ shal r lv left < left)) → ∀ (lv : Nat) (left : Int), -1 ≤ left → -1 ≤ shals l lv left ∧ shals l lv left ≤ left := by
      intro l
      induction l with
      | nil => intro _ lv left h; rw [shals]; omega
      | cons r l ih2 =>
        intro hh lv left h
        rw [shals]
        split
        · omega
        · rename_i h0
          obtain ⟨h1, h2⟩ := hh r List.mem_cons_self (lv + 1) left
          obtain ⟨h3, h4⟩ := ih2 (fun x hx => hh x (List.mem_cons_of_mem _ hx)) lv (shal r (lv + 1) left) h1
          omega
    rw [shal]
    split
    · omega
    · rename_i h
      obtain ⟨h1, h2⟩ := key l ih lv (left - 1) (by omega)
      omega

/-! ### validity -/
def lims (k : Int) (n : Nat) : Option (Nat × Nat) :=
  if k = 1 ∨ k = 2 ∨ k = 3 then some (0, 0) else if k = 4 ∨ k = 5 then some (2, n) else if k = 6 then some (1, 1) else .none
mutual
def validP : Rx → Nat → Bool
  | .mk k s l, d => if d = 0 then false else if decide (k = 3) = decide (s = zeroW) then false else
    match lims k l.length with
    | .none => false
    | some (lo, hi) => if l.length < lo ∨ hi < l.length then false else validPs l (d - 1)
def validPs : List Rx → Nat → Bool
  | [], _ => true
  | r :: l, d => validP r d && validPs l d
end
mutual
def validR : Rx → Nat → Bool
  | .mk k s l, a => if 30 ≤ a then false else if k ≠ 3 ∧ s ≠ zeroW then false else
    if k = 1 ∨ k = 2 then decide (l.length = 0) else if k = 3 then decide (l.length = 0) && decide (s ≠ zeroW) else
    if k = 4 ∨ k = 5 then (if l.length < 2 then false else validRs l (a + 1)) else
    if k = 6 then (if l.length ≠ 1 then false else validRs l (a + 1)) else false
def validRs : List Rx → Nat → Bool
  | [], _ => true
  | r :: l, a => validR r a && validRs l a
end
theorem lims_none {k : Int} {n : Nat} (h : lims k n = .none) : k ≠ 1 ∧ k ≠ 2 ∧ k ≠ 3 ∧ k ≠ 4 ∧ k ≠ 5 ∧ k ≠ 6 := by
  unfold lims at h
  split at h
  · cases h
  · split at h
    · cases h
    · split at h
      · cases h
      · omega
theorem lims_some {k : Int} {n lo hi : Nat} (h : lims k n = some (lo, hi)) : ((k = 1 ∨ k = 2 ∨ k = 3) ∧ lo = 0 ∧ hi = 0) ∨ ((k = 4 ∨ k = 5) ∧ lo = 2 ∧ hi = n) ∨ (k = 6 ∧ lo = 1 ∧ hi = 1) := by
  unfold lims at h
  split at h
  · cases h; rename_i h; exact .inl ⟨h, rfl, rfl⟩
  · split at h
    · cases h; rename_i h; exact .inr (.inl ⟨h, rfl, rfl⟩)
    · split at h
      · cases h; rename_i h; exact .inr (.inr ⟨h, rfl, rfl⟩)
      · cases h
theorem validP_eq (r : Rx) (d : Nat) : validP r d = if d = 0 then false else if decide (r.k = 3) = decide (r.s = zeroW) then false else
    match lims r.k r.l.length with
    | .none => false
    | some (lo, hi) => if r.l.length < lo ∨ hi < r.l.length then false else validPs r.l (d - 1) := by
  cases r; rw [validP]; rfl
theorem validR_eq (r : Rx) (a : Nat) : validR r a = if 30 ≤ a then false else if r.k ≠ 3 ∧ r.s ≠ zeroW then false else
    if r.k = 1 ∨ r.k = 2 then decide (r.l.length = 0) else if r.k = 3 then decide (r.l.length = 0) && decide (r.s ≠ zeroW) else
    if r.k = 4 ∨ r.k = 5 then (if r.l.length < 2 then false else validRs r.l (a + 1)) else
    if r.k = 6 then (if r.l.length ≠ 1 then false else validRs r.l (a + 1)) else false := by
  cases r; rw [validR]; rfl
theorem validPs_f {l : List Rx} {i d : Nat} {r : Rx} (h : l[i]? = some r) (hv : validP r d = false) : validPs (l.drop i) d = false := by
  obtain ⟨hi, rfl⟩ := List.getElem?_eq_some_iff.1 h
  rw [List.drop_eq_getElem_cons hi, validPs, hv]; rfl
theorem validPs_t {l : List Rx} {i d : Nat} {r : Rx} (h : l[i]? = some r) (hv : validP r d = true) : validPs (l.drop i) d = validPs (l.drop (i + 1)) d := by
  obtain ⟨hi, rfl⟩ := List.getElem?_eq_some_iff.1 h
  rw [List.drop_eq_getElem_cons hi, validPs, hv]; rfl
theorem validRs_f {l : List Rx} {i d : Nat} {r : Rx} (h : l[i]? = some r) (hv : validR r d = false) : validRs (l.drop i) d = false := by
  obtain ⟨hi, rfl⟩ := List.getElem?_eq_some_iff.1 h
  rw [List.drop_eq_getElem_cons hi, validRs, hv]; rfl
theorem validRs_t {l : List Rx} {i d : Nat} {r : Rx} (h : l[i]? = some r) (hv : validR r d = true) : validRs (l.drop i) d = validRs (l.drop (i + 1)) d := by
  obtain ⟨hi, rfl⟩ := List.getElem?_eq_some_iff.1 h
  rw [List.drop_eq_getElem_cons hi, validRs, hv]; rfl

theorem valid_same : ∀ (r : Rx) (d : Nat), d ≤ 30 → validP r d = validR r (30 - d) := by
  intro r
  induction r using Rx.ind with
  | h k s l ih =>
    intro d hd
    have kids : ∀ (l : List Rx), (∀ r ∈ l, ∀ (d : Nat), d ≤ 30 → validP r d = validR r (30 - d)) → ∀ d, d ≤ 30 → validPs l d = validRs l (30 - d) := by
      intro l
      induction l with
      | nil => intro _ d _; rw [validPs, validRs]
      | cons r l ih2 =>
        intro hh d hd
        rw [validPs, validRs, hh r List.mem_cons_self d hd, ih2 (fun x hx => hh x (List.mem_cons_of_mem _ hx)) d hd]
    have kd := kids l ih
    rw [validP, validR]
    by_cases h0 : d = 0
    · subst h0; simp
    · have e30 : 30 - d + 1 = 30 - (d - 1) := by omega
      have hn : ¬ 30 ≤ 30 - d := by omega
      rw [if_neg h0, if_neg hn, e30, ← kd (d - 1) (by omega)]
      by_cases hk3 : k = 3
      · subst hk3
        by_cases hs : s = zeroW
        · simp [hs]
        · cases l with
          | nil => simp [hs, lims, validPs]
          | cons a l => simp [hs, lims]
      · by_cases hs : s = zeroW
        · subst hs
          by_cases h1 : k = 1
          · subst h1; cases l <;> simp [lims, validPs]
          · by_cases h2 : k = 2
            · subst h2; cases l <;> simp [lims, validPs]
            · by_cases h4 : k = 4
              · subst h4; simp [lims]
              · by_cases h5 : k = 5
                · subst h5; simp [lims]
                · by_cases h6 : k = 6
                  · subst h6
                    simp [lims]
                    by_cases hl : l.length = 1
                    · have : l ≠ [] := by intro e; rw [e] at hl; simp at hl
                      simp [hl, this]
                    · have : l = [] ∨ 1 < l.length := by
                        cases l with
                        | nil => exact .inl rfl
                        | cons a l => right; simp at hl ⊢; cases l with
                          | nil => exact absurd rfl hl
                          | cons b l => simp
                      rcases this with h | h <;> simp [hl, h]
                  · simp [lims, hk3, h1, h2, h4, h5, h6]
        · simp [hk3, hs]
end Go.Dv
