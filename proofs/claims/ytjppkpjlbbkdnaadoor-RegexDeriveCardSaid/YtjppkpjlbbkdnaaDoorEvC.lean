/-
  What is proved here: rules to step through the evaluator, and the way from a function that the evaluator answers with true to the law over the model. Conditions: those that stand at each theorem.
-/
import Derived.Test.YtjppkpjlbbkdnaaDoorEvB
import Derived.ChangeKeysEq
import Derived.ProofKit
import Derived.OpenShut
import Derived.Recover
import Derived.Laws.StructEq

namespace Go.Dv
open Go

def kdOf : TypeDesc → Nat
  | .struct _ => 2
  | .array _ _ => 2
  | .invalid => 0
  | _ => 1

/-- Of each cell of a type: how many cells an element of the slice in it has. -/
def zsOf (P : Program) : Nat → TypeId → List Nat
  | 0, _ => []
  | d + 1, t => match P.underlying t with
    | some (.slice e) => [P.cellsOf e]
    | some (.array n e) => (List.replicate n (zsOf P d e)).flatten
    | some (.struct fs) => (fs.toList.map fun f => zsOf P d f.type).flatten
    | _ => [0]

def zcells : List Nat → List Value → Option (List X)
  | _, [] => some []
  | zs, v :: r => match zcells (zs.drop 1) r with
    | some xs => if isNilSl v then some (.nil (zs.headD 0) :: xs) else if scal v then some (.v (.lit v) :: xs) else .none
    | .none => .none

def zeroOf (P : Program) (t : TypeId) (d : TypeDesc) (i : TypeInfo) : Option (List X) :=
  match i.zero with
  | some v => if v.cells.toList.length = i.size ∧ (kdOf d = 1 → scal v = true) then zcells (zsOf P 20 t) v.cells.toList else .none
  | .none => .none

def badTI : TI := { und := .invalid, size := 0, bytes := 0, kd := 0, zero := .none }

def tiOf (P : Program) (t : TypeId) : TI :=
  match P.info? t, P.underlying t with
  | some i, some d => if kdOf d = 0 then badTI else { und := d, size := i.size, bytes := i.bytes, kd := kdOf d, zero := zeroOf P t d i }
  | _, _ => badTI

def fnOf (f : Func) : Option Func := if f.body.isSome && !(f.name == "runtime.NumGoroutine") then some f else .none

def mkLite (P : Program) (frz : List FuncId) (eqt : List (TypeId × List Nat)) (xb : List FuncId := []) : Lite :=
  { ty := (List.range P.types.size).map (tiOf P), fn := P.funcs.toList.map fnOf, frz, eqt, xb }

/-- Every element and field of a type is known. -/
def closedB (P : Program) : Bool :=
  (List.range P.types.size).all fun t => match (tiOf P t).und with
    | .slice e => decide (e < P.types.size) && decide ((tiOf P e).kd ≠ 0)
    | .array _ e => decide (e < P.types.size) && decide ((tiOf P e).kd ≠ 0)
    | .struct fs => fs.toList.all fun f => decide (f.type < P.types.size) && decide ((tiOf P f.type).kd ≠ 0)
    | _ => true

section
variable {P : Program} {frz : List FuncId} {eqt : List (TypeId × List Nat)} {xb : List FuncId}

theorem mk_ti (t : TypeId) : (mkLite P frz eqt xb).ti t = if t < P.types.size then tiOf P t else badTI := by
  unfold Lite.ti mkLite
  simp only [List.getD_eq_getElem?_getD, List.getElem?_map]
  by_cases h : t < P.types.size
  · simp [h, List.getElem?_range]
  · simp [h, List.getElem?_range, badTI]

theorem mk_fn (f : FuncId) : (mkLite P frz eqt xb).fn.getD f .none = (P.funcs[f]?).bind fnOf := by
  simp only [mkLite, List.getD_eq_getElem?_getD, List.getElem?_map, Array.getElem?_toList]
  cases P.funcs[f]? <;> rfl

theorem kdOf_bad {d : TypeDesc} (h : d = .invalid) : kdOf d = 0 := by subst h; rfl

theorem und_of_kd {t : TypeId} (h : (tiOf P t).kd ≠ 0) : (tiOf P t).und ≠ .invalid := by
  unfold tiOf at h ⊢
  split
  · rename_i i d hi hd
    rw [hi, hd] at h
    simp only at h
    split
    · rename_i hk; rw [if_pos hk] at h; exact absurd rfl h
    · rename_i hk; intro e; exact hk (kdOf_bad e)
  · rename_i hne
    split at h
    · rename_i i d hi hd; exact absurd hd (by intro hd'; exact hne i d hi hd')
    · exact absurd rfl h

theorem zcells_ok : ∀ (vs : List Value) (zs : List Nat) (xs : List X), zcells zs vs = some xs → zeroOk xs vs
  | [], zs, xs, h => by
    simp only [zcells, Option.some.injEq] at h
    subst h
    exact ⟨rfl, fun j x u h => by simp at h⟩
  | v :: r, zs, xs, h => by
    unfold zcells at h
    split at h
    · rename_i ys hy
      obtain ⟨h1, h2⟩ := zcells_ok r _ _ hy
      have key : ∀ x : X, ((∃ z, x = .nil z ∧ v = .slice none 0 0) ∨ (x = .v (.lit v) ∧ scal v = true)) → zeroOk (x :: ys) (v :: r) := fun x hx =>
        ⟨by simp [h1], fun j y u hj hu => by
          cases j with
          | zero => simp at hj hu; subst hj; subst hu; exact hx
          | succ j => simp at hj hu; exact h2 j y u hj hu⟩
      split at h
      · rename_i hn
        cases h
        refine key _ (.inl ⟨_, rfl, ?_⟩)
        unfold isNilSl at hn
        split at hn
        · rfl
        · cases hn
      · split at h
        · rename_i hs
          cases h
          exact key _ (.inr ⟨rfl, hs⟩)
        · cases h
    · cases h

theorem mk_fact {t : TypeId} (h : ((mkLite P frz eqt xb).ti t).und ≠ .invalid) : Fact P (mkLite P frz eqt xb) t := by
  rw [mk_ti] at h
  by_cases ht : t < P.types.size
  · rw [if_pos ht] at h
    have hl : (mkLite P frz eqt xb).ti t = tiOf P t := by rw [mk_ti, if_pos ht]
    unfold tiOf at h
    split at h
    · rename_i i d hi hd
      split at h
      · exact absurd rfl h
      · rename_i hk
        have he : tiOf P t = { und := d, size := i.size, bytes := i.bytes, kd := kdOf d, zero := zeroOf P t d i } := by
          unfold tiOf; rw [hi, hd]; simp only; rw [if_neg hk]
        rw [he] at hl
        refine ⟨by rw [hl]; exact hd, ⟨i, hi, by rw [hl], by rw [hl], fun zx hz => ?_⟩, fun i' v hi' hk1 hz hv => ?_, by rw [hl]; cases d <;> rfl⟩
        · rw [hl] at hz ⊢
          change zeroOf P t d i = some zx at hz
          unfold zeroOf at hz
          split at hz
          · rename_i v hv
            split at hz
            · rename_i hc
              have := zcells_ok _ _ _ hz
              exact ⟨v, hv, this, by rw [this.1, ← hc.1]⟩
            · cases hz
          · cases hz
        · rw [hi] at hi'; cases hi'
          rw [hl] at hz hk1
          change (zeroOf P t d i).isSome = true at hz
          change kdOf d = 1 at hk1
          unfold zeroOf at hz
          rw [hv] at hz
          simp only at hz
          split at hz
          · rename_i hc
            have hs := hc.2 hk1
            cases v <;> first | rfl | (simp [scal] at hs)
          · cases hz
    · exact absurd rfl h
  · rw [if_neg ht] at h; exact absurd rfl h

theorem mk_kd {t : TypeId} (h : ((mkLite P frz eqt xb).ti t).und = .invalid) : ((mkLite P frz eqt xb).ti t).kd = 0 ∧ ((mkLite P frz eqt xb).ti t).zero = .none := by
  rw [mk_ti] at h ⊢
  split at h
  · rename_i ht
    rw [if_pos ht]
    have hb : tiOf P t = badTI := by
      unfold tiOf at h ⊢
      split at h
      · split at h
        · rename_i hk; exact if_pos hk
        · rename_i hk; exact absurd (kdOf_bad h) hk
      · rfl
    rw [hb]; exact ⟨rfl, rfl⟩
  · rename_i ht; rw [if_neg ht]; exact ⟨rfl, rfl⟩

theorem mk_ok (hm : P.follows .mixedOrders = true) (hc : closedB P = true)
    (heq : ∀ t ks, eqt.lookup t = some ks → ∀ (xs ys : List V) (us vs : List Value) (b : Bool) (w : World), eqCells xs ys = some b → xs.map litK = ks → ys.map litK = ks → us.length = xs.length → vs.length = ys.length →
      (∀ (i : Nat) (x : V) (u : Value), xs[i]? = some x → us[i]? = some u → x = .lit u) → (∀ (i : Nat) (x : V) (u : Value), ys[i]? = some x → vs[i]? = some u → x = .lit u) →
      (Op.equal t (.agg us.toArray) (.agg vs.toArray)).run P w = .ok b w ∧ P.eqGuardType P.depth t = false)
    (hxb : ∀ f ∈ xb, ∃ fn, P.funcs[f]? = some fn ∧ (fn.name == "runtime.NumGoroutine") = false ∧ fn.body.isNone = true ∧ Extern.findNext fn = none ∧ Extern.find fn = some Extern.BytealgIndexByte.indexByte := by simp) : LiteOk P (mkLite P frz eqt xb) := by
  have cl : ∀ t, t < P.types.size → _ := fun t ht => List.all_eq_true.1 hc t (List.mem_range.2 ht)
  have lt : ∀ t, ((mkLite P frz eqt xb).ti t).und ≠ .invalid → t < P.types.size ∧ (mkLite P frz eqt xb).ti t = tiOf P t := by
    intro t h
    rw [mk_ti] at h
    by_cases ht : t < P.types.size
    · exact ⟨ht, by rw [mk_ti, if_pos ht]⟩
    · rw [if_neg ht] at h; exact absurd rfl h
  have good : ∀ e, e < P.types.size → (tiOf P e).kd ≠ 0 → ((mkLite P frz eqt xb).ti e).und ≠ .invalid := fun e h1 h2 => by rw [mk_ti, if_pos h1]; exact und_of_kd h2
  refine ⟨hm, fun t h => mk_fact h, fun t h => (mk_kd h).1, fun t h => (mk_kd h).2, fun t e h => ?_, fun t n e h => ?_, fun t fs f fd h hf => ?_, fun f fn h => ?_, heq, (fun g it h => by simp [mkLite] at h), (fun f h => by simp [mkLite] at h), fun f h s x w => ?_⟩
  · obtain ⟨ht, he⟩ := lt t (by rw [h]; exact fun e => by cases e)
    have := cl t ht
    rw [he] at h
    rw [h] at this
    simp only [Bool.and_eq_true, decide_eq_true_eq] at this
    exact good e this.1 this.2
  · obtain ⟨ht, he⟩ := lt t (by rw [h]; exact fun e => by cases e)
    have := cl t ht
    rw [he] at h
    rw [h] at this
    simp only [Bool.and_eq_true, decide_eq_true_eq] at this
    exact good e this.1 this.2
  · obtain ⟨ht, he⟩ := lt t (by rw [h]; exact fun e => by cases e)
    have := cl t ht
    rw [he] at h
    rw [h] at this
    simp only [List.all_eq_true, Bool.and_eq_true, decide_eq_true_eq] at this
    have := this fd (Array.mem_toList_iff.2 (Array.mem_of_getElem? hf))
    exact good _ this.1 this.2
  · rw [mk_fn] at h
    cases hf : P.funcs[f]? with
    | none => rw [hf] at h; cases h
    | some g =>
      rw [hf] at h
      simp only [Option.bind_some, fnOf] at h
      split at h
      · rename_i hc
        cases h
        simp only [Bool.and_eq_true, Bool.not_eq_true'] at hc
        exact ⟨rfl, hc.1, hc.2⟩
      · cases h
  · obtain ⟨fn, h1, h2, h3, h4, h5⟩ := hxb f (by simpa [mkLite] using h)
    rw [run_callFunc_extern h1 h2 h3 h4 h5, run_indexByte_string]
    rfl

/-! ### comparing arrays of numbers -/
theorem eqItems_ints {e : TypeId} {k : IntKind} (hu : P.underlying e = some (.int k)) {i : TypeInfo} (hi : P.info? e = some i) (hs : i.size = 1) (d : Nat) (xs ys : Array Value) :
    ∀ (l : List Nat) (as bs : List V) (b : Bool) (w : World), eqCells as bs = some b → as.map litK = List.replicate as.length 1 → bs.map litK = List.replicate bs.length 1 → as.length = l.length →
      (∀ (j n : Nat) (x : V), as[j]? = some x → l[j]? = some n → ∃ u, xs[n]? = some u ∧ x = .lit u) → (∀ (j n : Nat) (x : V), bs[j]? = some x → l[j]? = some n → ∃ u, ys[n]? = some u ∧ x = .lit u) →
      (Op.eqItems (d + 1) e (P.cellsOf e) xs ys l).run P w = .ok b w
  | [], as, bs, b, w, h, h1, h2, hl, hx, hy => by
    cases as with
    | cons a as => simp at hl
    | nil => cases bs with
      | nil => simp [eqCells] at h; subst h; simp [Op.eqItems]
      | cons b bs => simp [eqCells] at h
  | n :: l, as, bs, b, w, h, h1, h2, hl, hx, hy => by
    cases as with
    | nil => simp at hl
    | cons a as =>
      cases bs with
      | nil => simp [eqCells] at h
      | cons c bs =>
        unfold eqCells at h
        split at h
        · rename_i p q hp hq
          simp only [Option.some.injEq] at h
          obtain ⟨u, hu1, rfl⟩ := hx 0 n _ rfl rfl
          obtain ⟨v, hv1, rfl⟩ := hy 0 n _ rfl rfl
          simp only [List.map_cons, List.length_cons, List.replicate_succ, List.cons.injEq] at h1 h2
          have ih := eqItems_ints hu hi hs d xs ys l as bs q w hq h1.2 h2.2 (by simpa using hl) (fun j m x ha hb => hx (j + 1) m x (by simpa using ha) (by simpa using hb)) (fun j m x ha hb => hy (j + 1) m x (by simpa using ha) (by simpa using hb))
          have hc : P.cellsOf e = 1 := by simp [Program.cellsOf, hi, hs]
          obtain ⟨ku, nu, rfl⟩ : ∃ k n, u = .int k n := by
            have := h1.1
            unfold litK at this
            split at this <;> first | (cases this; done) | skip
            rename_i heq; cases heq; exact ⟨_, _, rfl⟩
          obtain ⟨kv, nv, rfl⟩ : ∃ k n, v = .int k n := by
            have := h2.1
            unfold litK at this
            split at this <;> first | (cases this; done) | skip
            rename_i heq; cases heq; exact ⟨_, _, rfl⟩
          have hpart : ∀ (zs : Array Value) (z : Value), zs[n]? = some z → (part e zs (n * 1)).run P w = .ok z w := by
            intro zs z hz
            simp [part, isAgg, run_underlying hu, hz]
          simp only [eqCell] at hp
          split at hp
          · rename_i hk
            simp only [Option.some.injEq] at hp
            subst hp
            have hcell : (Op.equalIn (d + 1) e (.int ku nu) (.int kv nv)).run P w = .ok (nu == nv) w := by
              simp [Op.equalIn, run_underlying hu, hk]
            simp only [Op.eqItems, hc, Sem.run_bind, hpart _ _ hu1, hpart _ _ hv1, Result.andThen_ok, hcell]
            cases hb : (nu == nv)
            · subst h; simp [hb]
            · simp only [Bool.not_true, Bool.false_eq_true, if_false]
              rw [hc] at ih
              rw [ih, ← h, hb]; rfl
          · cases hp
        · cases h

theorem equal_ints {t e : TypeId} {n : Nat} {k : IntKind} (ht : P.underlying t = some (.array n e)) (hu : P.underlying e = some (.int k)) {i : TypeInfo} (hi : P.info? e = some i) (hs : i.size = 1)
    (xs ys : List V) (us vs : List Value) (b : Bool) (w : World) (h : eqCells xs ys = some b) (h1 : xs.map litK = List.replicate n 1) (h2 : ys.map litK = List.replicate n 1) (l1 : us.length = xs.length) (l2 : vs.length = ys.length)
    (r1 : ∀ (i : Nat) (x : V) (u : Value), xs[i]? = some x → us[i]? = some u → x = .lit u) (r2 : ∀ (i : Nat) (x : V) (u : Value), ys[i]? = some x → vs[i]? = some u → x = .lit u) :
    (Op.equal t (.agg us.toArray) (.agg vs.toArray)).run P w = .ok b w := by
  have e1 : xs.length = n := by have := congrArg List.length h1; simpa using this
  have e2 : ys.length = n := by have := congrArg List.length h2; simpa using this
  show (Op.equalIn (9998 + 1 + 1) t _ _).run P w = _
  rw [run_equalIn_array w _ us.toArray vs.toArray ht hi]
  refine eqItems_ints hu hi hs _ _ _ _ xs ys b w h (by rw [e1]; exact h1) (by rw [e2]; exact h2) (by simp [e1]) ?_ ?_
  · intro j m x hx hm
    have hj := (List.getElem?_eq_some_iff.1 hx).1
    rw [List.getElem?_range (by omega)] at hm
    cases hm
    have hu' : us[j]? = some (us[j]'(by omega)) := List.getElem?_eq_getElem (by omega)
    exact ⟨_, by simp, r1 j x _ hx hu'⟩
  · intro j m x hx hm
    have hj := (List.getElem?_eq_some_iff.1 hx).1
    rw [List.getElem?_range (by omega)] at hm
    cases hm
    have hu' : vs[j]? = some (vs[j]'(by omega)) := List.getElem?_eq_getElem (by omega)
    exact ⟨_, by simp, r2 j x _ hx hu'⟩

end
/-- The same with slices of own rows. -/
def Lite.withMats (L : Lite) (m : List TypeId) (r : List (TypeId × Option Nat)) : Lite := { L with mats := m, rots := r }
theorem LiteOk.withMats {P : Program} {L : Lite} (h : LiteOk P L) (m : List TypeId) (r : List (TypeId × Option Nat)) : LiteOk P (L.withMats m r) :=
  ⟨h.mixed, fun t ht => ⟨(h.fact t ht).und, (h.fact t ht).info, (h.fact t ht).one, (h.fact t ht).kd⟩, h.kd, h.nozero, h.slice, h.array, h.struct, h.fn, h.eqt, h.its, h.jn, h.xb⟩

/-- The same with functions that keep an array, and with constant memory. -/
def Lite.withIts (L : Lite) (its : List (FuncId × (FuncId × Nat))) (jn : List FuncId) (gm : Mem) : Lite := { L with its := its, jn := jn, gm := gm }
theorem LiteOk.withIts {P : Program} {L : Lite} (h : LiteOk P L) (its : List (FuncId × (FuncId × Nat))) (jn : List FuncId) (gm : Mem)
    (hi : ∀ g it, its.lookup g = some it → ∀ (cs : List V) (vs : List Value) (mu : Mem) (w : World), cs.length = it.2 → RepV mu (.agg cs) (.agg vs.toArray) → (∀ b o v, mu b o = some v → w.cell? ⟨b, o, none⟩ = some v) →
      (callFunc g #[.agg vs.toArray]).run P w = .ok (.enter g #[.agg vs.toArray]) w ∧ Calls P g #[.agg vs.toArray] w fun e w' => ∃ (b : Nat) (mu' : Mem), Base w.heap.size [] w w' ∧ (∀ b o v, mu b o = some v → mu' b o = some v) ∧
        (∀ b o v, mu' b o = some v → mu b o = some v ∨ w.heap.size ≤ b) ∧ (∀ b o v, mu' b o = some v → w'.cell? ⟨b, o, none⟩ = some v) ∧
        e = .returned (.func (.func it.1) #[] #[.pointer (some ⟨b, 0, none⟩)]) ∧ RepCs (inMem mu') mu' cs ⟨b, 0, none⟩)
    (hj : ∀ f, jn.contains f = true → ∀ (a : Option Addr) (n : Nat) (xs : List ByteArray) (sep : ByteArray) (w : World), (a = none → xs = []) → (∀ ad, a = some ad → xs ≠ [] → ad.spot = none) →
      (∀ (ad : Addr) (j : Nat) (x : ByteArray), a = some ad → xs[j]? = some x → w.cell? ⟨ad.block, ad.off + j, none⟩ = some (.string x)) → xs.length ≤ n → xs.length ≤ 140737488355328 → (joinB xs sep).length ≤ 140737488355328 →
      (callFunc f #[.slice a xs.length n, .string sep]).run P w = .ok (.enter f #[.slice a xs.length n, .string sep]) w ∧ Calls P f #[.slice a xs.length n, .string sep] w fun e w' => Base w.heap.size [] w w' ∧ e = .returned (.string ⟨(joinB xs sep).toArray⟩)) : LiteOk P (L.withIts its jn gm) :=
  ⟨h.mixed, fun t ht => ⟨(h.fact t ht).und, (h.fact t ht).info, (h.fact t ht).one, (h.fact t ht).kd⟩, h.kd, h.nozero, h.slice, h.array, h.struct, h.fn, h.eqt, hi, hj, h.xb⟩

end Go.Dv

namespace Go.Dv
open Go

def CodeEv (L : Lite) (ext : Ext) (c : Code) (ρ : St) (e : Ex) (ρ' : St) : Prop := ∃ K, ∀ k, K ≤ k → evalCode L (evalF L ext k) (k + 1) c ρ = some (e, ρ')
def wpC (L : Lite) (ext : Ext) (c : Code) (ρ : St) (Q : Ex → St → Prop) : Prop := ∃ e ρ', CodeEv L ext c ρ e ρ' ∧ Q e ρ'
def FnEv (L : Lite) (ext : Ext) (f : FuncId) (as : List X) (cs : List (List V)) (r : Res × List (List V)) : Prop := ∃ K, ∀ k, K ≤ k → evalF L ext k f as cs = some r

abbrev Fp := List (List Nat × List Nat)

def runP (L : Lite) (call : Call1) (ops : Array Oper) : List Oper → St → Option (Option V × St × Fp)
  | [], ρ => some (.none, ρ, [])
  | o :: r, ρ => match dop L call ops o ρ with
    | some (.none, ρ', rd, wr) => match runP L call ops r ρ' with
      | some (p, ρ2, f) => some (p, ρ2, (rd, wr) :: f)
      | .none => .none
    | some (some v, ρ', rd, wr) => some (some v, ρ', [(rd, wr)])
    | .none => .none

theorem runP_evalOps {L : Lite} {call : Call1} {ops : Array Oper} : ∀ {l : List Oper} {ρ : St} {p : Option V} {ρ' : St} {f : Fp}, runP L call ops l ρ = some (p, ρ', f) → evalOps L call ops l ρ = some (p, ρ')
  | [], ρ, p, ρ', f, h => by simp only [runP, Option.some.injEq, Prod.mk.injEq] at h; obtain ⟨rfl, rfl, _⟩ := h; rfl
  | o :: r, ρ, p, ρ', f, h => by
    unfold runP at h
    unfold evalOps
    split at h
    · rename_i ρ1 rd wr hd
      split at h
      · rename_i p2 ρ2 f2 h2
        simp only [Option.some.injEq, Prod.mk.injEq] at h
        obtain ⟨rfl, rfl, _⟩ := h
        rw [hd]; exact runP_evalOps h2
      · cases h
    · rename_i v ρ1 rd wr hd
      simp only [Option.some.injEq, Prod.mk.injEq] at h
      obtain ⟨rfl, rfl, _⟩ := h
      rw [hd]
    · cases h

theorem runP_runOps {L : Lite} {call : Call1} {ops : Array Oper} : ∀ {l : List Oper} {ρ : St} {ρ' : St} {f : Fp}, runP L call ops l ρ = some (.none, ρ', f) → runOps L call ops l ρ = some (ρ', f)
  | [], ρ, ρ', f, h => by simp only [runP, Option.some.injEq, Prod.mk.injEq] at h; obtain ⟨_, rfl, rfl⟩ := h; rfl
  | o :: r, ρ, ρ', f, h => by
    unfold runP at h
    unfold runOps
    split at h
    · rename_i ρ1 rd wr hd
      split at h
      · rename_i p2 ρ2 f2 h2
        simp only [Option.some.injEq, Prod.mk.injEq] at h
        obtain ⟨rfl, rfl, rfl⟩ := h
        rw [hd]; simp only; rw [runP_runOps h2]
      · cases h
    · cases h
    · cases h

def wpO (L : Lite) (ext : Ext) (ops : Array Oper) (l : List Oper) (ρ : St) (Q : Option V → St → Fp → Prop) : Prop :=
  ∃ p ρ' f, (∃ K, ∀ k, K ≤ k → runP L (evalF L ext k) ops l ρ = some (p, ρ', f)) ∧ Q p ρ' f

def ActEv (L : Lite) (ext : Ext) (o : Oper) (ρ : St) (x : X) (H : Nat → Ob) (rd wr : List Nat) : Prop :=
  ∃ K, ∀ k, K ≤ k → (act L (evalF L ext k) (siteOf o.dst ρ.n) o ρ.opd).run ρ.ob = some (.val x, H, rd, wr)

section
variable {L : Lite} {ext : Ext} {ops : Array Oper} {o : Oper} {r : List Oper} {ρ : St} {Q : Option V → St → Fp → Prop} {QC : Ex → St → Prop}

theorem wO_nil (h : Q .none ρ []) : wpO L ext ops [] ρ Q := ⟨_, _, _, ⟨0, fun k _ => rfl⟩, h⟩

theorem wO_step {ρ1 : St} {rd wr : List Nat} (h : ∃ K, ∀ k, K ≤ k → dop L (evalF L ext k) ops o ρ = some (.none, ρ1, rd, wr)) (hk : wpO L ext ops r ρ1 (fun p ρ' f => Q p ρ' ((rd, wr) :: f))) : wpO L ext ops (o :: r) ρ Q := by
  obtain ⟨K, h⟩ := h
  obtain ⟨p, ρ', f, ⟨K', h'⟩, hq⟩ := hk
  refine ⟨p, ρ', (rd, wr) :: f, ⟨max K K', fun k hk => ?_⟩, hq⟩
  unfold runP
  rw [h k (by omega)]; simp only; rw [h' k (by omega)]

theorem wO_set {t : Tmp} {x : X} {H : Nat → Ob} {rd wr : List Nat} (hd : o.dst = some t) (hn : Nat.ble (t + 1) ρ.n = true) (hg : guardX ops o ρ = some true) (ha : ActEv L ext o ρ x H rd wr)
    (hk : wpO L ext ops r ⟨ρ.n, upd ρ.sl t x, H⟩ (fun p ρ' f => Q p ρ' ((rd, wr) :: f))) : wpO L ext ops (o :: r) ρ Q := by
  obtain ⟨K, ha⟩ := ha
  refine wO_step ⟨K, fun k hk => ?_⟩ hk
  have hlt : t < ρ.n := Nat.le_of_ble_eq_true hn
  unfold dop
  rw [hg]
  simp only
  rw [ha k hk]
  simp only [hd, St.put, if_pos hlt]

theorem wO_eff {x : X} {H : Nat → Ob} {rd wr : List Nat} (hd : o.dst = .none) (hg : guardX ops o ρ = some true) (ha : ActEv L ext o ρ x H rd wr)
    (hk : wpO L ext ops r ⟨ρ.n, ρ.sl, H⟩ (fun p ρ' f => Q p ρ' ((rd, wr) :: f))) : wpO L ext ops (o :: r) ρ Q := by
  obtain ⟨K, ha⟩ := ha
  refine wO_step ⟨K, fun k hk => ?_⟩ hk
  unfold dop
  rw [hg]
  simp only
  rw [ha k hk]
  simp only [hd, St.put]

theorem wO_skip {t : Tmp} (hd : o.dst = some t) (hn : Nat.ble (t + 1) ρ.n = true) (hg : guardX ops o ρ = some false)
    (hk : wpO L ext ops r ⟨ρ.n, upd ρ.sl t (.tup []), ρ.ob⟩ (fun p ρ' f => Q p ρ' (([], []) :: f))) : wpO L ext ops (o :: r) ρ Q := by
  refine wO_step ⟨0, fun k hk => ?_⟩ hk
  have hlt : t < ρ.n := Nat.le_of_ble_eq_true hn
  unfold dop
  rw [hg]
  simp only [hd, St.put, if_pos hlt]

theorem wO_skipE (hd : o.dst = .none) (hg : guardX ops o ρ = some false) (hk : wpO L ext ops r ρ (fun p ρ' f => Q p ρ' (([], []) :: f))) : wpO L ext ops (o :: r) ρ Q := by
  refine wO_step ⟨0, fun k hk => ?_⟩ hk
  unfold dop
  rw [hg]
  simp only [hd, St.put]

/-- The same, of a state that is laid out. -/
theorem wS_set {n0 : Nat} {sl : Nat → X} {ob : Nat → Ob} {t : Tmp} {x : X} {H : Nat → Ob} {rd wr : List Nat} (hd : o.dst = some t) (hn : Nat.ble (t + 1) n0 = true) (hg : guardX ops o ⟨n0, sl, ob⟩ = some true) (ha : ActEv L ext o ⟨n0, sl, ob⟩ x H rd wr)
    (hk : wpO L ext ops r ⟨n0, upd sl t x, H⟩ (fun p ρ' f => Q p ρ' ((rd, wr) :: f))) : wpO L ext ops (o :: r) ⟨n0, sl, ob⟩ Q := wO_set hd hn hg ha hk
theorem wS_eff {n0 : Nat} {sl : Nat → X} {ob : Nat → Ob} {x : X} {H : Nat → Ob} {rd wr : List Nat} (hd : o.dst = .none) (hg : guardX ops o ⟨n0, sl, ob⟩ = some true) (ha : ActEv L ext o ⟨n0, sl, ob⟩ x H rd wr)
    (hk : wpO L ext ops r ⟨n0, sl, H⟩ (fun p ρ' f => Q p ρ' ((rd, wr) :: f))) : wpO L ext ops (o :: r) ⟨n0, sl, ob⟩ Q := wO_eff hd hg ha hk
theorem wS_skip {n0 : Nat} {sl : Nat → X} {ob : Nat → Ob} {t : Tmp} (hd : o.dst = some t) (hn : Nat.ble (t + 1) n0 = true) (hg : guardX ops o ⟨n0, sl, ob⟩ = some false)
    (hk : wpO L ext ops r ⟨n0, upd sl t (.tup []), ob⟩ (fun p ρ' f => Q p ρ' (([], []) :: f))) : wpO L ext ops (o :: r) ⟨n0, sl, ob⟩ Q := wO_skip hd hn hg hk

/-! ### code -/
theorem wC_reg {id : Nat} (h : wpO L ext ops ops.toList ρ (fun p ρ' _ => match p with | .none => QC .normal ρ' | some v => QC (.pan v) ρ')) : wpC L ext (.region id ops false) ρ QC := by
  obtain ⟨p, ρ', f, ⟨K, h⟩, hq⟩ := h
  cases p with
  | none => exact ⟨.normal, ρ', ⟨K, fun k hk => by simp only [evalCode, evalRegion, Bool.false_eq_true, if_false]; rw [runP_evalOps (h k hk)]⟩, hq⟩
  | some v => exact ⟨.pan v, ρ', ⟨K, fun k hk => by simp only [evalCode, evalRegion, Bool.false_eq_true, if_false]; rw [runP_evalOps (h k hk)]⟩, hq⟩

theorem wC_regD {id : Nat} (hs : staticOk ops = true) (h : wpO L ext ops ops.toList ρ (fun p ρ' f => p = .none ∧ drawOk ops f = true ∧ QC .normal ρ')) : wpC L ext (.region id ops true) ρ QC := by
  obtain ⟨p, ρ', f, ⟨K, h⟩, rfl, hd, hq⟩ := h
  exact ⟨.normal, ρ', ⟨K, fun k hk => by simp only [evalCode, evalRegion, if_true, hs, runP_runOps (h k hk), hd]⟩, hq⟩

theorem wC_seq {a b : Code} (h : wpC L ext a ρ (fun e ρ' => match e with | .normal => wpC L ext b ρ' QC | e => QC e ρ')) : wpC L ext (.seq a b) ρ QC := by
  obtain ⟨e, ρ', ⟨K, h⟩, hq⟩ := h
  cases e with
  | normal =>
    obtain ⟨e2, ρ2, ⟨K', h'⟩, hq⟩ := hq
    refine ⟨e2, ρ2, ⟨max K K', fun k hk => ?_⟩, hq⟩
    simp only [evalCode]; rw [h k (by omega)]; exact h' k (by omega)
  | exit i => exact ⟨_, ρ', ⟨K, fun k hk => by simp only [evalCode]; rw [h k hk]⟩, hq⟩
  | ret => exact ⟨_, ρ', ⟨K, fun k hk => by simp only [evalCode]; rw [h k hk]⟩, hq⟩
  | pan v => exact ⟨_, ρ', ⟨K, fun k hk => by simp only [evalCode]; rw [h k hk]⟩, hq⟩

theorem wC_cond {c : Operand} {a b : Code} {p : Bool} (hc : ρ.opd c = .v (.lit (.bool p))) (ht : p = true → wpC L ext a ρ QC) (hf : p = false → wpC L ext b ρ QC) : wpC L ext (.cond c a b) ρ QC := by
  cases p with
  | true =>
    obtain ⟨e, ρ', ⟨K, h⟩, hq⟩ := ht rfl
    exact ⟨e, ρ', ⟨K, fun k hk => by simp only [evalCode, hc, if_true]; exact h k hk⟩, hq⟩
  | false =>
    obtain ⟨e, ρ', ⟨K, h⟩, hq⟩ := hf rfl
    exact ⟨e, ρ', ⟨K, fun k hk => by simp only [evalCode, hc, Bool.false_eq_true, if_false]; exact h k hk⟩, hq⟩

theorem wC_block {id : Nat} {c : Code} (h : wpC L ext c ρ (fun e ρ' => match e with | .exit i => if i = id then QC .normal ρ' else QC (.exit i) ρ' | e => QC e ρ')) : wpC L ext (.block id c) ρ QC := by
  obtain ⟨e, ρ', ⟨K, h⟩, hq⟩ := h
  cases e with
  | exit i =>
    by_cases hi : i = id
    · simp only [hi, if_true] at hq
      exact ⟨_, ρ', ⟨K, fun k hk => by simp only [evalCode]; rw [h k hk]; simp only [hi, if_true]⟩, hq⟩
    · simp only [hi, if_false] at hq
      exact ⟨_, ρ', ⟨K, fun k hk => by simp only [evalCode]; rw [h k hk]; simp only [hi, if_false]⟩, hq⟩
  | normal => exact ⟨_, ρ', ⟨K, fun k hk => by simp only [evalCode]; rw [h k hk]⟩, hq⟩
  | ret => exact ⟨_, ρ', ⟨K, fun k hk => by simp only [evalCode]; rw [h k hk]⟩, hq⟩
  | pan v => exact ⟨_, ρ', ⟨K, fun k hk => by simp only [evalCode]; rw [h k hk]⟩, hq⟩

theorem wC_skip (h : QC .normal ρ) : wpC L ext .skip ρ QC := ⟨_, _, ⟨0, fun k _ => rfl⟩, h⟩
theorem wC_label {id : Nat} (h : QC .normal ρ) : wpC L ext (.label id) ρ QC := ⟨_, _, ⟨0, fun k _ => rfl⟩, h⟩
theorem wC_exit {id : Nat} (h : QC (.exit id) ρ) : wpC L ext (.exit id) ρ QC := ⟨_, _, ⟨0, fun k _ => rfl⟩, h⟩
theorem wC_ret (h : QC .ret ρ) : wpC L ext .ret ρ QC := ⟨_, _, ⟨0, fun k _ => rfl⟩, h⟩
theorem wC_scope {c : Code} (h : wpC L ext c ρ QC) : wpC L ext (.scope c) ρ QC := h

theorem wpC_mono {c : Code} {Q' : Ex → St → Prop} (h : wpC L ext c ρ QC) (hm : ∀ e ρ', QC e ρ' → Q' e ρ') : wpC L ext c ρ Q' :=
  let ⟨e, ρ', h1, h2⟩ := h; ⟨e, ρ', h1, hm _ _ h2⟩

/-- The rounds of a loop. -/
inductive Rounds (L : Lite) (ext : Ext) (c : Code) : Nat → St → Ex → St → Prop
  | one {ρ : St} {e : Ex} {ρ' : St} (h : CodeEv L ext c ρ e ρ') (he : e ≠ .normal) : Rounds L ext c 1 ρ e ρ'
  | more {n : Nat} {ρ ρ1 : St} {e : Ex} {ρ' : St} (h : CodeEv L ext c ρ .normal ρ1) (k : Rounds L ext c n ρ1 e ρ') : Rounds L ext c (n + 1) ρ e ρ'

theorem loopN_stop {f : St → Option (Ex × St)} {ρ ρ' : St} {e : Ex} (h : f ρ = some (e, ρ')) (he : e ≠ .normal) (n : Nat) : loopN f (n + 1) ρ = some (e, ρ') := by
  unfold loopN; rw [h]; cases e <;> first | rfl | exact absurd rfl he

theorem rounds_loop {c : Code} {n : Nat} {ρ : St} {e : Ex} {ρ' : St} (h : Rounds L ext c n ρ e ρ') : ∃ K, ∀ k, K ≤ k → ∀ m, n ≤ m → loopN (evalCode L (evalF L ext k) (k + 1) c) m ρ = some (e, ρ') := by
  induction h with
  | one h he =>
    obtain ⟨K, h⟩ := h
    refine ⟨K, fun k hk m hm => ?_⟩
    obtain ⟨m, rfl⟩ : ∃ m', m = m' + 1 := ⟨m - 1, by omega⟩
    exact loopN_stop (h k hk) he m
  | more h k ih =>
    obtain ⟨K, h⟩ := h
    obtain ⟨K', h'⟩ := ih
    refine ⟨max K K', fun k hk m hm => ?_⟩
    obtain ⟨m, rfl⟩ : ∃ m', m = m' + 1 := ⟨m - 1, by omega⟩
    unfold loopN
    rw [h k (by omega)]
    exact h' k (by omega) m (by omega)

/-- A loop: what holds ahead of each round, and a number that sinks. -/
theorem wC_loop {c : Code} (I : Nat → St → Prop) (hb : ∀ m ρ, I m ρ → wpC L ext c ρ (fun e ρ' => match e with | .normal => ∃ m', m' < m ∧ I m' ρ' | e => QC e ρ')) : ∀ (m : Nat) {ρ : St}, I m ρ → wpC L ext (.loop c) ρ QC := by
  have key : ∀ (m : Nat) (ρ : St), I m ρ → ∃ n e ρ', Rounds L ext c n ρ e ρ' ∧ QC e ρ' := by
    intro m
    induction m using Nat.strongRecOn with
    | _ m ih =>
      intro ρ hi
      obtain ⟨e, ρ', h, hq⟩ := hb m ρ hi
      cases e with
      | normal =>
        obtain ⟨m', hlt, hi'⟩ := hq
        obtain ⟨n, e2, ρ2, hr, hq⟩ := ih m' hlt ρ' hi'
        exact ⟨n + 1, e2, ρ2, .more h hr, hq⟩
      | exit i => exact ⟨1, _, ρ', .one h (fun e => by cases e), hq⟩
      | ret => exact ⟨1, _, ρ', .one h (fun e => by cases e), hq⟩
      | pan v => exact ⟨1, _, ρ', .one h (fun e => by cases e), hq⟩
  intro m ρ hi
  obtain ⟨n, e, ρ', hr, hq⟩ := key m ρ hi
  obtain ⟨K, h⟩ := rounds_loop hr
  exact ⟨e, ρ', ⟨max K n, fun k hk => by simp only [evalCode]; exact h k (by omega) (k + 1) (by omega)⟩, hq⟩

/-! ### functions -/
/-- What is left where a function ends. -/
def endF (L : Lite) (fn : Func) (nc : Nat) (r : Res × List (List V)) : Ex → St → Prop
  | .pan v, ρ => r.1 = .pan v ∧ outs ρ.ob fn.ntmps nc = some r.2
  | .exit _, _ => False
  | _, ρ => ∃ vs H a b, r.1 = .ret vs ∧ (resEf L ρ.sl fn.results.toList .ret).run ρ.ob = some (vs, H, a, b) ∧ outs H fn.ntmps nc = some r.2

theorem fn_ev {f : FuncId} {fn : Func} {c : Code} {as : List X} {cs : List (List V)} {r : Res × List (List V)} (he : ext f = .none) (hf : L.fn.getD f .none = some fn) (hb : fn.body = some c) (ha : Nat.ble as.length fn.ntmps = true)
    (h : wpC L ext c (enterSt fn as cs) (endF L fn cs.length r)) : FnEv L ext f as cs r := by
  obtain ⟨e, ρ', ⟨K, h⟩, hq⟩ := h
  have hle : as.length ≤ fn.ntmps := Nat.le_of_ble_eq_true ha
  refine ⟨K + 1, fun k hk => ?_⟩
  obtain ⟨k, rfl⟩ : ∃ k', k = k' + 1 := ⟨k - 1, by omega⟩
  obtain ⟨r1, r2⟩ := r
  simp only [evalF, he, hf, runFn, hb, if_pos hle, h k (by omega)]
  cases e with
  | exit i => exact hq.elim
  | pan v => obtain ⟨h1, h2⟩ := hq; simp only [h2]; cases h1; rfl
  | normal => obtain ⟨vs, H, a, b, h1, h2, h3⟩ := hq; simp only [h2, h3]; cases h1; rfl
  | ret => obtain ⟨vs, H, a, b, h1, h2, h3⟩ := hq; simp only [h2, h3]; cases h1; rfl

/-- A function that is told by a contract of its own. -/
theorem fn_ext {f : FuncId} {e : Runner} {as : List X} {cs : List (List V)} {r : Res × List (List V)} (he : ext f = some e) (h : ∃ K, ∀ k, K ≤ k → e (evalF L ext k) (k + 1) as cs = some r) : FnEv L ext f as cs r := by
  obtain ⟨K, h⟩ := h
  refine ⟨K + 1, fun k hk => ?_⟩
  obtain ⟨k, rfl⟩ : ∃ k', k = k' + 1 := ⟨k - 1, by omega⟩
  simp only [evalF, he]
  exact h k (by omega)

theorem fn_go {f : FuncId} {fn : Func} {c : Code} {as : List X} {cs : List (List V)} {r : Res × List (List V)} (n0 : Nat) (he : ext f = .none) (hf : L.fn.getD f .none = some fn) (hb : fn.body = some c) (h0 : fn.ntmps = n0) (ha : Nat.ble as.length n0 = true)
    (h : wpC L ext c ⟨n0, fun i => as.getD i .undef, ioOb n0 cs⟩ (endF L fn cs.length r)) : FnEv L ext f as cs r := by
  subst h0; exact fn_ev he hf hb ha h

/-! ### pinned slots -/
theorem upd_eta {α : Type} {f : Nat → α} {i : Nat} {x : α} (h : f i = x) : f = upd f i x := by
  funext j; unfold upd; split
  · rename_i e; subst e; exact h
  · rfl

def pin {α : Type} (f : Nat → α) : List (Nat × α) → (Nat → α)
  | [] => f
  | (i, x) :: r => upd (pin f r) i x

theorem pin_eta {α : Type} (f : Nat → α) : ∀ (l : List (Nat × α)), (∀ p ∈ l, f p.1 = p.2) → f = pin f l
  | [], _ => rfl
  | (i, x) :: r, h => by
    have ih := pin_eta f r (fun p hp => h p (List.mem_cons_of_mem _ hp))
    show f = upd (pin f r) i x
    rw [← ih]; exact upd_eta (h (i, x) (List.mem_cons_self))

/-- A state of which some slots and objects are known. -/
def PinSt (n : Nat) (ss : List (Nat × X)) (os : List (Nat × Ob)) (ρ : St) : Prop := ρ.n = n ∧ (∀ p ∈ ss, ρ.sl p.1 = p.2) ∧ ∀ p ∈ os, ρ.ob p.1 = p.2

theorem PinSt.form {n : Nat} {ss : List (Nat × X)} {os : List (Nat × Ob)} {ρ : St} (h : PinSt n ss os ρ) : ∃ g k, ρ = ⟨n, pin g ss, pin k os⟩ :=
  ⟨ρ.sl, ρ.ob, by obtain ⟨h1, h2, h3⟩ := h; rw [← pin_eta ρ.sl ss h2, ← pin_eta ρ.ob os h3, ← h1]⟩

def AllP {α : Type} (f : Nat → α) : List (Nat × α) → Prop
  | [] => True
  | (i, x) :: r => f i = x ∧ AllP f r

theorem AllP.all {α : Type} {f : Nat → α} : ∀ {l : List (Nat × α)}, AllP f l → ∀ p ∈ l, f p.1 = p.2
  | [], _, p, hp => by simp at hp
  | (i, x) :: r, h, p, hp => by
    rcases List.mem_cons.1 hp with rfl | k
    · exact h.1
    · exact h.2.all p k

theorem pinned_mk {n : Nat} {ss : List (Nat × X)} {os : List (Nat × Ob)} {ρ : St} (h1 : ρ.n = n) (h2 : AllP ρ.sl ss) (h3 : AllP ρ.ob os) : PinSt n ss os ρ := ⟨h1, h2.all, h3.all⟩

theorem upd_ap {α : Type} (f : Nat → α) (i j : Nat) (x : α) : upd f i x j = if j = i then x else f j := rfl

end
end Go.Dv

namespace Go.Dv
open Go

section
variable {L : Lite} {ext : Ext} {ops : Array Oper} {n0 : Nat} {sl : Nat → X} {ob : Nat → Ob} {d : Option Tmp} {ty : TypeId} {pos : String} {af : Array Edge} {gd : Option (Nat × Bool)}

def plainX : X → Bool
  | .nil _ => false
  | _ => true

theorem retype_plain {t : TypeId} {x : X} (h : plainX x = true) : retype L t x = x := by
  unfold retype
  split
  · simp [plainX] at h
  · rfl

theorem a_move {x : Operand} {y : X} (hx : (St.opd ⟨n0, sl, ob⟩) x = y) (hy : plainX y = true) : ActEv L ext ⟨d, .move x, ty, pos, af, gd⟩ ⟨n0, sl, ob⟩ y ob [] [] :=
  ⟨0, fun k _ => by simp [act, hx, retype_plain hy, Ef.run]⟩
theorem a_assign {x : Operand} {y : X} (hx : (St.opd ⟨n0, sl, ob⟩) x = y) (hy : plainX y = true) : ActEv L ext ⟨d, .assign x, ty, pos, af, gd⟩ ⟨n0, sl, ob⟩ y ob [] [] :=
  ⟨0, fun k _ => by simp [act, hx, retype_plain hy, Ef.run]⟩
theorem a_moveNil {x : Operand} {z : Nat} {T E : TI} {e : TypeId} (hx : (St.opd ⟨n0, sl, ob⟩) x = .nil z) (ht : L.ti ty = T) (hu : T.und = .slice e) (he : L.ti e = E) : ActEv L ext ⟨d, .move x, ty, pos, af, gd⟩ ⟨n0, sl, ob⟩ (.nil E.size) ob [] [] :=
  ⟨0, fun k _ => by simp [act, hx, retype, ht, hu, he, Ef.run]⟩
theorem a_assignNil {x : Operand} {z : Nat} {T E : TI} {e : TypeId} (hx : (St.opd ⟨n0, sl, ob⟩) x = .nil z) (ht : L.ti ty = T) (hu : T.und = .slice e) (he : L.ti e = E) : ActEv L ext ⟨d, .assign x, ty, pos, af, gd⟩ ⟨n0, sl, ob⟩ (.nil E.size) ob [] [] :=
  ⟨0, fun k _ => by simp [act, hx, retype, ht, hu, he, Ef.run]⟩
theorem a_pickT {c a b : Operand} {y : X} (hc : (St.opd ⟨n0, sl, ob⟩) c = .v (.lit (.bool true))) (ha : (St.opd ⟨n0, sl, ob⟩) a = y) : ActEv L ext ⟨d, .pick c a b, ty, pos, af, gd⟩ ⟨n0, sl, ob⟩ y ob [] [] :=
  ⟨0, fun k _ => by simp [act, hc, ha, Ef.run]⟩
theorem a_pickF {c a b : Operand} {y : X} (hc : (St.opd ⟨n0, sl, ob⟩) c = .v (.lit (.bool false))) (hb : (St.opd ⟨n0, sl, ob⟩) b = y) : ActEv L ext ⟨d, .pick c a b, ty, pos, af, gd⟩ ⟨n0, sl, ob⟩ y ob [] [] :=
  ⟨0, fun k _ => by simp [act, hc, hb, Ef.run]⟩

theorem siteSome {d n : Nat} (h : Nat.ble (d + 1) n = true) : siteOf (some d) n = some d := by
  have : d < n := Nat.le_of_ble_eq_true h
  simp [siteOf, this]

theorem a_alloc {s : Tmp} {t : TypeId} {T : TI} {zx : List X} (ht : L.ti t = T) (hz : T.zero = some zx) (hn : Nat.ble (s + 1) n0 = true) :
    ActEv L ext ⟨some s, .alloc t, ty, pos, af, gd⟩ ⟨n0, sl, ob⟩ (.addr s ((ob s).gen + 1) 0) (upd ob s (.box ((ob s).gen + 1) zx)) [s] [s] :=
  ⟨0, fun k _ => by simp [act, ht, hz, ov, siteSome hn, nextGen, Ef.run]⟩

theorem a_box2 {s : Tmp} {t : TypeId} {T : TI} {x : Operand} {ys : List V} (hx : (St.opd ⟨n0, sl, ob⟩) x = .v (.agg ys)) (ht : L.ti t = T) (hk : T.kd = 2) (hl : ys.length = T.size) (hn : Nat.ble (s + 1) n0 = true) :
    ActEv L ext ⟨some s, .box t x, ty, pos, af, gd⟩ ⟨n0, sl, ob⟩ (.addr s ((ob s).gen + 1) 0) (upd ob s (.box ((ob s).gen + 1) (ys.map X.v))) [s] [s] :=
  ⟨0, fun k _ => by simp [act, hx, retype_plain (L := L) (x := .v (.agg ys)) rfl, cellsX, ht, hk, hl, ov, siteSome hn, nextGen, Ef.run]⟩

theorem a_box1 {s : Tmp} {t : TypeId} {T : TI} {x : Operand} {y : X} (hx : (St.opd ⟨n0, sl, ob⟩) x = y) (hp : plainX y = true) (hy : cellX y = true) (ht : L.ti t = T) (hk : T.kd = 1) (hl : T.size = 1) (hn : Nat.ble (s + 1) n0 = true) :
    ActEv L ext ⟨some s, .box t x, ty, pos, af, gd⟩ ⟨n0, sl, ob⟩ (.addr s ((ob s).gen + 1) 0) (upd ob s (.box ((ob s).gen + 1) [y])) [s] [s] :=
  ⟨0, fun k _ => by simp [act, hx, retype_plain hp, cellsX, ht, hk, hl, hy, ov, siteSome hn, nextGen, Ef.run]⟩

/-! ### loads -/
theorem a_load2 {t : TypeId} {T : TI} {x : Operand} {s g off : Nat} {cs : List X} {ys : List V} (hx : (St.opd ⟨n0, sl, ob⟩) x = .addr s g off) (ho : ob s = .box g cs) (ht : L.ti t = T) (hk : T.kd = 2)
    (hl : off + T.size ≤ cs.length) (hy : xvs ((cs.drop off).take T.size) = some ys) : ActEv L ext ⟨d, .load t x, ty, pos, af, gd⟩ ⟨n0, sl, ob⟩ (.v (.agg ys)) ob [s] [] :=
  ⟨0, fun k _ => by simp [act, hx, actLoad, ho, loadC, ht, hk, hl, hy, ov, Ef.run]⟩
theorem a_load1 {t : TypeId} {T : TI} {x : Operand} {s g off : Nat} {cs : List X} {y : X} (hx : (St.opd ⟨n0, sl, ob⟩) x = .addr s g off) (ho : ob s = .box g cs) (ht : L.ti t = T) (hk : T.kd = 1)
    (hy : cs[off]? = some y) : ActEv L ext ⟨d, .load t x, ty, pos, af, gd⟩ ⟨n0, sl, ob⟩ y ob [s] [] :=
  ⟨0, fun k _ => by simp [act, hx, actLoad, ho, loadC, ht, hk, hy, ov, Ef.run]⟩
theorem a_loadE2 {t : TypeId} {T : TI} {x : Operand} {s g i off z : Nat} {mt : Bool} {es : List (List V)} {e : List V} (hx : (St.opd ⟨n0, sl, ob⟩) x = .elt s g i off) (ho : ob s = .row g mt z es) (he : es[i]? = some e) (ht : L.ti t = T) (hk : T.kd = 2)
    (hl : off + T.size ≤ e.length) : ActEv L ext ⟨d, .load t x, ty, pos, af, gd⟩ ⟨n0, sl, ob⟩ (.v (.agg ((e.drop off).take T.size))) ob [s] [] :=
  ⟨0, fun k _ => by simp [act, hx, actLoad, ho, he, loadV, ht, hk, hl, Ef.run]⟩
theorem a_loadE1 {t : TypeId} {T : TI} {x : Operand} {s g i off z : Nat} {mt : Bool} {es : List (List V)} {e : List V} {y : V} (hx : (St.opd ⟨n0, sl, ob⟩) x = .elt s g i off) (ho : ob s = .row g mt z es) (he : es[i]? = some e) (ht : L.ti t = T) (hk : T.kd = 1)
    (hy : e[off]? = some y) : ActEv L ext ⟨d, .load t x, ty, pos, af, gd⟩ ⟨n0, sl, ob⟩ (.v y) ob [s] [] :=
  ⟨0, fun k _ => by simp [act, hx, actLoad, ho, he, loadV, ht, hk, hy, ov, Ef.run]⟩
theorem a_loadR2 {t : TypeId} {T : TI} {x : Operand} {cs : List V} (hx : (St.opd ⟨n0, sl, ob⟩) x = .ro cs) (ht : L.ti t = T) (hk : T.kd = 2)
    (hl : T.size ≤ cs.length) : ActEv L ext ⟨d, .load t x, ty, pos, af, gd⟩ ⟨n0, sl, ob⟩ (.v (.agg (cs.take T.size))) ob [] [] :=
  ⟨0, fun k _ => by simp [act, hx, actLoad, loadV, ht, hk, hl, Ef.run]⟩
theorem a_loadR1 {t : TypeId} {T : TI} {x : Operand} {cs : List V} {y : V} (hx : (St.opd ⟨n0, sl, ob⟩) x = .ro cs) (ht : L.ti t = T) (hk : T.kd = 1)
    (hy : cs[0]? = some y) : ActEv L ext ⟨d, .load t x, ty, pos, af, gd⟩ ⟨n0, sl, ob⟩ (.v y) ob [] [] :=
  ⟨0, fun k _ => by simp [act, hx, actLoad, loadV, ht, hk, hy, ov, Ef.run]⟩

/-! ### stores -/
theorem a_store2 {t : TypeId} {T : TI} {x y : Operand} {s g off : Nat} {cs : List X} {ys : List V} (hx : (St.opd ⟨n0, sl, ob⟩) x = .addr s g off) (hy : (St.opd ⟨n0, sl, ob⟩) y = .v (.agg ys)) (ho : ob s = .box g cs) (ht : L.ti t = T) (hk : T.kd = 2)
    (hl : ys.length = T.size) (hb : off + ys.length ≤ cs.length) : ActEv L ext ⟨d, .store t x y, ty, pos, af, gd⟩ ⟨n0, sl, ob⟩ .undef (upd ob s (.box g (setRange cs off (ys.map X.v)))) [s] [s] :=
  ⟨0, fun k _ => by have hb' := hb; rw [hl] at hb'; simp [act, hx, hy, retype_plain (L := L) (x := .v (.agg ys)) rfl, actStore, ho, cellsX, ht, hk, hl, hb', ov, Ef.run]⟩
theorem a_store1 {t : TypeId} {T : TI} {x y : Operand} {s g off : Nat} {cs : List X} {v : X} (hx : (St.opd ⟨n0, sl, ob⟩) x = .addr s g off) (hy : (St.opd ⟨n0, sl, ob⟩) y = v) (hp : plainX v = true) (hc : cellX v = true) (ho : ob s = .box g cs) (ht : L.ti t = T) (hk : T.kd = 1)
    (hl : T.size = 1) (hb : off < cs.length) : ActEv L ext ⟨d, .store t x y, ty, pos, af, gd⟩ ⟨n0, sl, ob⟩ .undef (upd ob s (.box g (cs.set off v))) [s] [s] :=
  ⟨0, fun k _ => by simp [act, hx, hy, retype_plain hp, actStore, ho, cellsX, ht, hk, hl, hc, Nat.succ_le_of_lt hb, ov, Ef.run, setRange]⟩
theorem a_storeE1 {t : TypeId} {T : TI} {x y : Operand} {s g i off z : Nat} {es : List (List V)} {e : List V} {v : V} (hx : (St.opd ⟨n0, sl, ob⟩) x = .elt s g i off) (hy : (St.opd ⟨n0, sl, ob⟩) y = .v v) (hc : v.flat = true) (ho : ob s = .row g true z es) (he : es[i]? = some e) (ht : L.ti t = T) (hk : T.kd = 1)
    (hl : T.size = 1) (hb : off < e.length) : ActEv L ext ⟨d, .store t x y, ty, pos, af, gd⟩ ⟨n0, sl, ob⟩ .undef (upd ob s (.row g true z (es.set i (e.set off v)))) [s] [s] :=
  ⟨0, fun k _ => by simp [act, hx, hy, retype_plain (L := L) (x := .v v) rfl, actStore, frz, ho, he, cellsV, ht, hk, hl, hc, Nat.succ_le_of_lt hb, ov, Ef.run, setRangeV]⟩
theorem a_storeE2 {t : TypeId} {T : TI} {x y : Operand} {s g i off z : Nat} {es : List (List V)} {e ys : List V} (hx : (St.opd ⟨n0, sl, ob⟩) x = .elt s g i off) (hy : (St.opd ⟨n0, sl, ob⟩) y = .v (.agg ys)) (ho : ob s = .row g true z es) (he : es[i]? = some e) (ht : L.ti t = T) (hk : T.kd = 2)
    (hl : ys.length = T.size) (hb : off + ys.length ≤ e.length) : ActEv L ext ⟨d, .store t x y, ty, pos, af, gd⟩ ⟨n0, sl, ob⟩ .undef (upd ob s (.row g true z (es.set i (setRangeV e off ys)))) [s] [s] :=
  ⟨0, fun k _ => by have hb' := hb; rw [hl] at hb'; simp [act, hx, hy, retype_plain (L := L) (x := .v (.agg ys)) rfl, actStore, frz, ho, he, cellsV, ht, hk, hl, hb', ov, Ef.run]⟩

/-! ### addresses -/
theorem a_nilCheckA {x : Operand} {s g off : Nat} (hx : (St.opd ⟨n0, sl, ob⟩) x = .addr s g off) : ActEv L ext ⟨d, .nilCheck x, ty, pos, af, gd⟩ ⟨n0, sl, ob⟩ (.addr s g off) ob [] [] := ⟨0, fun k _ => by simp [act, hx, Ef.run]⟩
theorem a_fieldAddrA {t : TypeId} {T F : TI} {x : Operand} {s g off f : Nat} {fs : Array Field} {fd : Field} (hx : (St.opd ⟨n0, sl, ob⟩) x = .addr s g off) (ht : L.ti t = T) (hu : T.und = .struct fs) (hf : fs[f]? = some fd) (hF : L.ti fd.type = F) (hs : (F.size == 0) = false) :
    ActEv L ext ⟨d, .fieldAddr t x f, ty, pos, af, gd⟩ ⟨n0, sl, ob⟩ (.addr s g (off + fd.offset)) ob [] [] :=
  ⟨0, fun k _ => by simp at hs; simp [act, hx, actFieldAddr, ht, hu, hf, hF, hs, shift, Ef.run]⟩
theorem a_indexAddrA {t e : TypeId} {T E : TI} {x i : Operand} {s g off len : Nat} {ik : IntKind} {n : Int} (hx : (St.opd ⟨n0, sl, ob⟩) x = .addr s g off) (hi : (St.opd ⟨n0, sl, ob⟩) i = .v (.lit (.int ik n))) (ht : L.ti t = T) (hu : T.und = .array len e) (he : L.ti e = E) (h0 : 0 ≤ n) (h1 : n < (len : Int)) :
    ActEv L ext ⟨d, .indexAddr t x i, ty, pos, af, gd⟩ ⟨n0, sl, ob⟩ (.addr s g (off + n.toNat * E.size)) ob [] [] :=
  ⟨0, fun k _ => by simp [act, hx, hi, actIndexAddr, num, ht, hu, he, h0, h1, shift, Ef.run]⟩
theorem a_indexAddrV {t e : TypeId} {T E : TI} {x i : Operand} {z : Nat} {es : List (List V)} {c : List V} {ik : IntKind} {n : Int} (hx : (St.opd ⟨n0, sl, ob⟩) x = .v (.sl z es)) (hi : (St.opd ⟨n0, sl, ob⟩) i = .v (.lit (.int ik n))) (ht : L.ti t = T) (hu : T.und = .slice e) (he : L.ti e = E) (hz : z = E.size) (h0 : 0 ≤ n) (hc : es[n.toNat]? = some c) :
    ActEv L ext ⟨d, .indexAddr t x i, ty, pos, af, gd⟩ ⟨n0, sl, ob⟩ (.ro c) ob [] [] :=
  ⟨0, fun k _ => by simp [act, hx, hi, actIndexAddr, num, ht, hu, he, hz, h0, hc, ov, Ef.run]⟩
theorem a_indexAddrL {t e : TypeId} {T E : TI} {x i : Operand} {z : Nat} {es : List (List V)} {c : List V} {ik : IntKind} {n : Int} (hx : (St.opd ⟨n0, sl, ob⟩) x = .lent z es) (hi : (St.opd ⟨n0, sl, ob⟩) i = .v (.lit (.int ik n))) (ht : L.ti t = T) (hu : T.und = .slice e) (he : L.ti e = E) (hz : z = E.size) (h0 : 0 ≤ n) (hc : es[n.toNat]? = some c) :
    ActEv L ext ⟨d, .indexAddr t x i, ty, pos, af, gd⟩ ⟨n0, sl, ob⟩ (.ro c) ob [] [] :=
  ⟨0, fun k _ => by simp [act, hx, hi, actIndexAddr, num, ht, hu, he, hz, h0, hc, ov, Ef.run]⟩
theorem a_indexAddrO {t e : TypeId} {T E : TI} {x i : Operand} {s g lo m z : Nat} {mt : Bool} {es : List (List V)} {ik : IntKind} {n : Int} (hx : (St.opd ⟨n0, sl, ob⟩) x = .own s g lo m) (hi : (St.opd ⟨n0, sl, ob⟩) i = .v (.lit (.int ik n))) (ho : ob s = .row g mt z es) (ht : L.ti t = T) (hu : T.und = .slice e) (he : L.ti e = E) (hz : z = E.size) (h0 : 0 ≤ n) (h1 : n < (m : Int)) :
    ActEv L ext ⟨d, .indexAddr t x i, ty, pos, af, gd⟩ ⟨n0, sl, ob⟩ (.elt s g (lo + n.toNat) 0) ob [s] [] :=
  ⟨0, fun k _ => by simp [act, hx, hi, actIndexAddr, num, ht, hu, he, hz, h0, h1, ho, Ef.run]⟩
theorem a_indexStr {t : TypeId} {T : TI} {x i : Operand} {sb : ByteArray} {b : UInt8} {ik : IntKind} {n : Int} (hx : (St.opd ⟨n0, sl, ob⟩) x = .v (.lit (.string sb))) (hi : (St.opd ⟨n0, sl, ob⟩) i = .v (.lit (.int ik n))) (ht : L.ti t = T) (hu : T.und = .string) (h0 : 0 ≤ n) (hb : sb[n.toNat]? = some b) :
    ActEv L ext ⟨d, .index t x i, ty, pos, af, gd⟩ ⟨n0, sl, ob⟩ (.v (.lit (.int .u8 b.toNat))) ob [] [] :=
  ⟨0, fun k _ => by simp [act, hx, hi, actIndex, num, ht, hu, h0, hb, ov, Ef.run]⟩
theorem a_indexArr1 {t e : TypeId} {T E : TI} {x i : Operand} {cs : List V} {y : V} {len : Nat} {ik : IntKind} {n : Int} (hx : (St.opd ⟨n0, sl, ob⟩) x = .v (.agg cs)) (hi : (St.opd ⟨n0, sl, ob⟩) i = .v (.lit (.int ik n))) (ht : L.ti t = T) (hu : T.und = .array len e) (he : L.ti e = E) (hk : E.kd = 1) (h0 : 0 ≤ n) (h1 : n < (len : Int)) (hy : cs[n.toNat * E.size]? = some y) :
    ActEv L ext ⟨d, .index t x i, ty, pos, af, gd⟩ ⟨n0, sl, ob⟩ (.v y) ob [] [] :=
  ⟨0, fun k _ => by simp [act, hx, hi, actIndex, num, ht, hu, he, h0, h1, loadV, hk, hy, ov, Ef.run]⟩
theorem a_field1 {t : TypeId} {T F : TI} {x : Operand} {f : Nat} {cs : List V} {fs : Array Field} {fd : Field} {y : V} (hx : (St.opd ⟨n0, sl, ob⟩) x = .v (.agg cs)) (ht : L.ti t = T) (hu : T.und = .struct fs) (hf : fs[f]? = some fd) (hF : L.ti fd.type = F) (hk : F.kd = 1) (hy : cs[fd.offset]? = some y) :
    ActEv L ext ⟨d, .field t x f, ty, pos, af, gd⟩ ⟨n0, sl, ob⟩ (.v y) ob [] [] :=
  ⟨0, fun k _ => by simp [act, hx, actField, ht, hu, hf, hF, loadV, hk, hy, ov, Ef.run]⟩

/-! ### operators -/
theorem notNilC {ρ : St} {y : Operand} {x : X} (h : ρ.opd y = x) (hx : ∀ z, z = X.v (.lit .nilIface) → x ≠ z) : isNilC y = false := by
  cases e : isNilC y with
  | false => rfl
  | true =>
    unfold isNilC at e
    split at e
    · exact absurd h.symm (fun e => hx _ rfl (by rw [e]; rfl))
    · cases e
theorem a_bin {op : BinOp} {t yt : TypeId} {x y : Operand} {a b r : Value} (hx : (St.opd ⟨n0, sl, ob⟩) x = .v (.lit a)) (hy : (St.opd ⟨n0, sl, ob⟩) y = .v (.lit b)) (hr : litBin op a b = some r) : ActEv L ext ⟨d, .binOp op t x y yt, ty, pos, af, gd⟩ ⟨n0, sl, ob⟩ (.v (.lit r)) ob [] [] :=
  ⟨0, fun k _ => by
    have hnb : ∀ p q, ¬ (a = .bool p ∧ b = .bool q) := by rintro p q ⟨rfl, rfl⟩; simp [litBin] at hr
    have hn : isNilC y = false := notNilC hy (by rintro z rfl e; cases e; cases a <;> simp [litBin] at hr)
    have e : actBin L op t (.v (.lit a)) (.v (.lit b)) = ov (litBin op a b) okl := by
      unfold actBin
      split
      · rename_i p q h1 h2
        cases h1; cases h2; exact absurd ⟨rfl, rfl⟩ (hnb _ _)
      · rename_i h1 h2; cases h1; cases h2; rfl
      · rename_i h1 h2; cases h1
      · rename_i h1 h2; cases h1
      · rename_i h1 h2; cases h1
      · rename_i h1 h2; cases h1
      · rename_i h1 h2 h3 h4 h5 h6; exact absurd rfl (h2 _ _ rfl)
    simp [act, hx, hy, hn, e, hr, ov, Ef.run]⟩
theorem a_binB {op : BinOp} {t yt : TypeId} {T : TI} {x y : Operand} {a b : Bool} {r : Value} (hx : (St.opd ⟨n0, sl, ob⟩) x = .v (.lit (.bool a))) (hy : (St.opd ⟨n0, sl, ob⟩) y = .v (.lit (.bool b))) (ht : L.ti t = T) (hu : T.und = .bool) (hr : boolOp op a b = some r) :
    ActEv L ext ⟨d, .binOp op t x y yt, ty, pos, af, gd⟩ ⟨n0, sl, ob⟩ (.v (.lit r)) ob [] [] :=
  ⟨0, fun k _ => by
    have hn : isNilC y = false := notNilC hy (by rintro z rfl e; cases e)
    simp [act, hx, hy, hn, actBin, ht, hu, hr, ov, Ef.run]⟩
theorem a_eqAgg {t yt : TypeId} {x y : Operand} {a b : List V} {r : Bool} (hx : (St.opd ⟨n0, sl, ob⟩) x = .v (.agg a)) (hy : (St.opd ⟨n0, sl, ob⟩) y = .v (.agg b)) (hk : L.eqt.lookup t = some (a.map litK)) (hl : b.map litK = a.map litK) (hr : eqCells a b = some r) :
    ActEv L ext ⟨d, .binOp .eql t x y yt, ty, pos, af, gd⟩ ⟨n0, sl, ob⟩ (.v (.lit (.bool r))) ob [] [] :=
  ⟨0, fun k _ => by
    have hn : isNilC y = false := notNilC hy (by rintro z rfl e; cases e)
    simp only [act, hx, hy, hn, Bool.false_eq_true, if_false, actBin]; rw [if_pos ⟨hk, hl⟩]; simp [hr, ov, Ef.run]⟩
theorem a_neAgg {t yt : TypeId} {x y : Operand} {a b : List V} {r : Bool} (hx : (St.opd ⟨n0, sl, ob⟩) x = .v (.agg a)) (hy : (St.opd ⟨n0, sl, ob⟩) y = .v (.agg b)) (hk : L.eqt.lookup t = some (a.map litK)) (hl : b.map litK = a.map litK) (hr : eqCells a b = some r) :
    ActEv L ext ⟨d, .binOp .neq t x y yt, ty, pos, af, gd⟩ ⟨n0, sl, ob⟩ (.v (.lit (.bool !r))) ob [] [] :=
  ⟨0, fun k _ => by
    have hn : isNilC y = false := notNilC hy (by rintro z rfl e; cases e)
    simp only [act, hx, hy, hn, Bool.false_eq_true, if_false, actBin]; rw [if_pos ⟨hk, hl⟩]; simp [hr, ov, Ef.run]⟩
theorem a_eqNilF {t yt : TypeId} {T : TI} {x y : Operand} {f : FuncId} {cs : List X} {ps rs : Array TypeId} {vr : Bool} (hx : (St.opd ⟨n0, sl, ob⟩) x = .clo f cs) (hy : (St.opd ⟨n0, sl, ob⟩) y = .v (.lit .nilFunc)) (ht : L.ti t = T) (hu : T.und = .func ps rs vr) :
    ActEv L ext ⟨d, .binOp .eql t x y yt, ty, pos, af, gd⟩ ⟨n0, sl, ob⟩ (.v (.lit (.bool false))) ob [] [] :=
  ⟨0, fun k _ => by
    have hn : isNilC y = false := notNilC hy (by rintro z rfl e; cases e)
    simp [act, hx, hy, hn, actBin, ht, hu, nilRes, Ef.run]⟩
theorem a_un {op : UnOp} {t : TypeId} {x : Operand} {a r : Value} (hx : (St.opd ⟨n0, sl, ob⟩) x = .v (.lit a)) (hr : litUn op a = some r) : ActEv L ext ⟨d, .unOp op t x, ty, pos, af, gd⟩ ⟨n0, sl, ob⟩ (.v (.lit r)) ob [] [] :=
  ⟨0, fun k _ => by simp [act, hx, hr, ov, Ef.run]⟩
theorem a_convInt {src dst : TypeId} {S D : TI} {x : Operand} {k0 k1 : IntKind} {n : Int} (hx : (St.opd ⟨n0, sl, ob⟩) x = .v (.lit (.int k0 n))) (hs : L.ti src = S) (hk : (S.kd == 0) = false) (hd : L.ti dst = D) (hu : D.und = .int k1) :
    ActEv L ext ⟨d, .convert src dst x, ty, pos, af, gd⟩ ⟨n0, sl, ob⟩ (.v (.lit (.int k1 (k1.wrap n)))) ob [] [] :=
  ⟨0, fun k _ => by simp at hk; simp [act, hx, actConvert, hs, hk, hd, hu, Ef.run]⟩
theorem a_convBytesO {src dst e : TypeId} {S D E : TI} {x : Operand} {s g lo n z : Nat} {mt : Bool} {es : List (List V)} {l : List UInt8} (hx : (St.opd ⟨n0, sl, ob⟩) x = .own s g lo n) (ho : ob s = .row g mt z es) (hs : L.ti src = S) (hk : (S.kd == 0) = false) (hd : L.ti dst = D) (hu : D.und = .string)
    (hsu : S.und = .slice e) (he : L.ti e = E) (heu : E.und = .int .u8) (hb : bytesOf ((es.drop lo).take n) = some l) :
    ActEv L ext ⟨d, .convert src dst x, ty, pos, af, gd⟩ ⟨n0, sl, ob⟩ (.v (.lit (.string ⟨l.toArray⟩))) ob [s] [] :=
  ⟨0, fun k _ => by simp at hk; simp [act, hx, actConvert, hs, hk, hd, hu, hsu, he, heu, rdSl, ho, hb, ov, Ef.run]⟩

/-! ### lengths -/
theorem a_lenStr {x : Operand} {ts : Array TypeId} {t : TypeId} {T : TI} {sb : ByteArray} (hx : (St.opd ⟨n0, sl, ob⟩) x = .v (.lit (.string sb))) (h0 : ts[0]? = some t) (ht : L.ti t = T) (hu : T.und = .string) :
    ActEv L ext ⟨d, .call { callee := .builtin .len, args := #[x], argTypes := ts }, ty, pos, af, gd⟩ ⟨n0, sl, ob⟩ (.v (.lit (.int .i64 sb.size))) ob [] [] :=
  ⟨0, fun k _ => by simp [act, hx, actBuiltin, actLen, h0, ht, hu, Ef.run]⟩
theorem a_lenV {x : Operand} {ts : Array TypeId} {t e : TypeId} {T : TI} {z : Nat} {es : List (List V)} (hx : (St.opd ⟨n0, sl, ob⟩) x = .v (.sl z es)) (h0 : ts[0]? = some t) (ht : L.ti t = T) (hu : T.und = .slice e) :
    ActEv L ext ⟨d, .call { callee := .builtin .len, args := #[x], argTypes := ts }, ty, pos, af, gd⟩ ⟨n0, sl, ob⟩ (.v (.lit (.int .i64 es.length))) ob [] [] :=
  ⟨0, fun k _ => by simp [act, hx, actBuiltin, actLen, h0, ht, hu, Ef.run]⟩
theorem a_lenL {x : Operand} {ts : Array TypeId} {t e : TypeId} {T : TI} {z : Nat} {es : List (List V)} (hx : (St.opd ⟨n0, sl, ob⟩) x = .lent z es) (h0 : ts[0]? = some t) (ht : L.ti t = T) (hu : T.und = .slice e) :
    ActEv L ext ⟨d, .call { callee := .builtin .len, args := #[x], argTypes := ts }, ty, pos, af, gd⟩ ⟨n0, sl, ob⟩ (.v (.lit (.int .i64 es.length))) ob [] [] :=
  ⟨0, fun k _ => by simp [act, hx, actBuiltin, actLen, h0, ht, hu, Ef.run]⟩
theorem a_lenO {x : Operand} {ts : Array TypeId} {t e : TypeId} {T : TI} {s g lo n : Nat} (hx : (St.opd ⟨n0, sl, ob⟩) x = .own s g lo n) (h0 : ts[0]? = some t) (ht : L.ti t = T) (hu : T.und = .slice e) :
    ActEv L ext ⟨d, .call { callee := .builtin .len, args := #[x], argTypes := ts }, ty, pos, af, gd⟩ ⟨n0, sl, ob⟩ (.v (.lit (.int .i64 n))) ob [] [] :=
  ⟨0, fun k _ => by simp [act, hx, actBuiltin, actLen, h0, ht, hu, Ef.run]⟩
theorem a_lenN {x : Operand} {ts : Array TypeId} {t e : TypeId} {T : TI} {z : Nat} (hx : (St.opd ⟨n0, sl, ob⟩) x = .nil z) (h0 : ts[0]? = some t) (ht : L.ti t = T) (hu : T.und = .slice e) :
    ActEv L ext ⟨d, .call { callee := .builtin .len, args := #[x], argTypes := ts }, ty, pos, af, gd⟩ ⟨n0, sl, ob⟩ (.v (.lit (.int .i64 0))) ob [] [] :=
  ⟨0, fun k _ => by simp [act, hx, actBuiltin, actLen, h0, ht, hu, Ef.run]⟩
theorem a_lenM {x : Operand} {ts : Array TypeId} {t k e : TypeId} {T : TI} {s g : Nat} {es : List (Value × V)} (hx : (St.opd ⟨n0, sl, ob⟩) x = .mapr s g) (ho : ob s = .mp g es) (h0 : ts[0]? = some t) (ht : L.ti t = T) (hu : T.und = .map k e) :
    ActEv L ext ⟨d, .call { callee := .builtin .len, args := #[x], argTypes := ts }, ty, pos, af, gd⟩ ⟨n0, sl, ob⟩ (.v (.lit (.int .i64 es.length))) ob [s] [] :=
  ⟨0, fun k _ => by simp [act, hx, actBuiltin, actLen, actLenMap, ho, h0, ht, hu, Ef.run]⟩

/-! ### rows and maps -/
theorem a_make {s : Tmp} {t e : TypeId} {T E : TI} {x y : Operand} {k1 k2 : IntKind} {n : Nat} {zx : List X} {zero : List V} (hx : (St.opd ⟨n0, sl, ob⟩) x = .v (.lit (.int k1 (n : Int)))) (hy : (St.opd ⟨n0, sl, ob⟩) y = .v (.lit (.int k2 (n : Int)))) (ht : L.ti t = T) (hu : T.und = .slice e) (he : L.ti e = E)
    (hz : E.zero = some zx) (hv : xvs zx = some zero) (hb : n ≤ big) (hby : Nat.ble E.bytes 1024 = true) (hn : Nat.ble (s + 1) n0 = true)
    (hm : L.mats.contains t = false := by rfl) (hr : L.rots.contains (t, some s) = false := by rfl) :
    ActEv L ext ⟨some s, .makeSlice t x y, ty, pos, af, gd⟩ ⟨n0, sl, ob⟩ (.own s ((ob s).gen + 1) 0 n) (upd ob s (.row ((ob s).gen + 1) true E.size (List.replicate n zero))) [s] [s] :=
  ⟨0, fun k _ => by
    have h1 : E.bytes ≤ 1024 := Nat.le_of_ble_eq_true hby
    have h2 : ((n : Int) : Int) ≤ (big : Int) := by exact_mod_cast hb
    have h3 : ¬ (t ∈ L.mats) := by simpa using hm
    have h4 : ¬ ((t, some s) ∈ L.rots) := by simpa using hr
    simp [act, hx, hy, actMake, ht, hu, he, hz, hv, num, ov, h1, h2, h3, makeGen, h4, siteSome hn, nextGen, Ef.run]⟩
/-- A slice whose cells will hold own rows. -/
theorem a_makeM {s : Tmp} {t e : TypeId} {T E : TI} {x y : Operand} {k1 k2 : IntKind} {n : Nat} {x0 : X} {zero : List V} (hx : (St.opd ⟨n0, sl, ob⟩) x = .v (.lit (.int k1 (n : Int)))) (hy : (St.opd ⟨n0, sl, ob⟩) y = .v (.lit (.int k2 (n : Int)))) (ht : L.ti t = T) (hu : T.und = .slice e) (he : L.ti e = E)
    (hz : E.zero = some [x0]) (hv : xvs [x0] = some zero) (hb : n ≤ big) (hby : Nat.ble E.bytes 1024 = true) (hn : Nat.ble (s + 1) n0 = true) (hm : L.mats.contains t = true) :
    ActEv L ext ⟨some s, .makeSlice t x y, ty, pos, af, gd⟩ ⟨n0, sl, ob⟩ (.bsl s ((ob s).gen + 1) n) (upd ob s (.box ((ob s).gen + 1) (List.replicate n x0))) [s] [s] :=
  ⟨0, fun k _ => by
    have h1 : E.bytes ≤ 1024 := Nat.le_of_ble_eq_true hby
    have h2 : ((n : Int) : Int) ≤ (big : Int) := by exact_mod_cast hb
    have h3 : t ∈ L.mats := by simpa using hm
    simp [act, hx, hy, actMake, ht, hu, he, hz, hv, num, ov, h1, h2, h3, siteSome hn, nextGen, Ef.run]⟩
/-- One of three sites in turn. -/
theorem a_makeR {r : Tmp} {g0 g1 g2 s g : Nat} {t e : TypeId} {T E : TI} {x y : Operand} {k1 k2 : IntKind} {n : Nat} {zx : List X} {zero : List V} (hx : (St.opd ⟨n0, sl, ob⟩) x = .v (.lit (.int k1 (n : Int)))) (hy : (St.opd ⟨n0, sl, ob⟩) y = .v (.lit (.int k2 (n : Int)))) (ht : L.ti t = T) (hu : T.und = .slice e) (he : L.ti e = E)
    (hz : E.zero = some zx) (hv : xvs zx = some zero) (hb : n ≤ big) (hby : Nat.ble E.bytes 1024 = true) (hn : Nat.ble (r + 3) n0 = true)
    (h0 : (ob (r + 2)).gen = g0) (h1 : (ob (r + 1)).gen = g1) (h2 : (ob r).gen = g2)
    (hs : (g0 ≤ g1 ∧ g0 ≤ g2 ∧ s = r + 2 ∧ g = g0 + 1) ∨ (¬ (g0 ≤ g1 ∧ g0 ≤ g2) ∧ g1 ≤ g2 ∧ s = r + 1 ∧ g = g1 + 1) ∨ (¬ (g0 ≤ g1 ∧ g0 ≤ g2) ∧ ¬ g1 ≤ g2 ∧ s = r ∧ g = g2 + 1))
    (hm : L.mats.contains t = false := by rfl) (hr : L.rots.contains (t, some (r + 2)) = true := by rfl) :
    ActEv L ext ⟨some (r + 2), .makeSlice t x y, ty, pos, af, gd⟩ ⟨n0, sl, ob⟩ (.own s g 0 n) (upd ob s (.row g true E.size (List.replicate n zero))) [r + 2, r + 1, r] [s] :=
  ⟨0, fun k _ => by
    have e1 : E.bytes ≤ 1024 := Nat.le_of_ble_eq_true hby
    have e2 : ((n : Int) : Int) ≤ (big : Int) := by exact_mod_cast hb
    have e3 : ¬ (t ∈ L.mats) := by simpa using hm
    have e4 : (t, some (r + 2)) ∈ L.rots := by simpa using hr
    have e5 : siteOf (some (r + 2)) n0 = some (r + 2) := siteSome hn
    rcases hs with ⟨a1, a2, rfl, rfl⟩ | ⟨a1, a2, rfl, rfl⟩ | ⟨a1, a2, rfl, rfl⟩ <;>
      simp [act, hx, hy, actMake, ht, hu, he, hz, hv, num, ov, e1, e2, e3, makeGen, e4, e5, rotGen, h0, h1, h2, a1, a2, Ef.run]⟩
/-- The place of a cell of such a slice. -/
theorem a_indexAddrB {t e : TypeId} {T E : TI} {x i : Operand} {s g m : Nat} {ik : IntKind} {n : Int} (hx : (St.opd ⟨n0, sl, ob⟩) x = .bsl s g m) (hi : (St.opd ⟨n0, sl, ob⟩) i = .v (.lit (.int ik n))) (ht : L.ti t = T) (hu : T.und = .slice e) (he : L.ti e = E) (hz : E.size = 1) (h0 : 0 ≤ n) (h1 : n < (m : Int)) :
    ActEv L ext ⟨d, .indexAddr t x i, ty, pos, af, gd⟩ ⟨n0, sl, ob⟩ (.addr s g n.toNat) ob [] [] :=
  ⟨0, fun k _ => by simp [act, hx, hi, actIndexAddr, num, ht, hu, he, hz, h0, h1, Ef.run]⟩
theorem a_makeMap {s : Tmp} {t k e : TypeId} {T : TI} (ht : L.ti t = T) (hu : T.und = .map k e) (hn : Nat.ble (s + 1) n0 = true) :
    ActEv L ext ⟨some s, .makeMap t .none, ty, pos, af, gd⟩ ⟨n0, sl, ob⟩ (.mapr s ((ob s).gen + 1)) (upd ob s (.mp ((ob s).gen + 1) [])) [s] [s] :=
  ⟨0, fun k _ => by simp [act, actMakeMap, ht, hu, siteSome hn, nextGen, Ef.run]⟩
theorem a_appendN {s : Tmp} {ts : Array TypeId} {t e : TypeId} {T E : TI} {x y : Operand} {z z' : Nat} {es : List (List V)} {rd : List Nat} (hx : (St.opd ⟨n0, sl, ob⟩) x = .nil z) (hsrc : ∀ k : Nat → List (List V) → Ef Outc, ((srcOf ((St.opd ⟨n0, sl, ob⟩) y) k).run ob) = (match ((k z' es).run ob) with | some (a, H, r, w) => some (a, H, rd ++ r, w) | .none => .none))
    (h0 : ts[0]? = some t) (ht : L.ti t = T) (hu : T.und = .slice e) (he : L.ti e = E) (hty : srcTy L ts[1]? = true) (hzs : E.zero.isSome = true) (hz : z' = E.size) (hb : es.length ≤ big) (hby : Nat.ble E.bytes 1024 = true) (hne : es ≠ []) (hn : Nat.ble (s + 1) n0 = true) :
    ActEv L ext ⟨some s, .call { callee := .builtin .append, args := #[x, y], argTypes := ts }, ty, pos, af, gd⟩ ⟨n0, sl, ob⟩ (.own s ((ob s).gen + 1) 0 es.length) (upd ob s (.row ((ob s).gen + 1) true E.size es)) (rd ++ [s]) [s] :=
  ⟨0, fun k _ => by
    have h1 : E.bytes ≤ 1024 := Nat.le_of_ble_eq_true hby
    simp [act, actBuiltin, actAppend, h0, ht, hu, he, hty, hzs, hsrc, hx, hz, hb, h1, hne, siteSome hn, nextGen, Ef.run]⟩
theorem a_appendO {ts : Array TypeId} {t e : TypeId} {T E : TI} {x y : Operand} {s g n z z' : Nat} {mt : Bool} {es0 es : List (List V)} {rd : List Nat} (hx : (St.opd ⟨n0, sl, ob⟩) x = .own s g 0 n) (ho : ob s = .row g mt z es0) (hsrc : ∀ k : Nat → List (List V) → Ef Outc, ((srcOf ((St.opd ⟨n0, sl, ob⟩) y) k).run ob) = (match ((k z' es).run ob) with | some (a, H, r, w) => some (a, H, rd ++ r, w) | .none => .none))
    (h0 : ts[0]? = some t) (ht : L.ti t = T) (hu : T.und = .slice e) (he : L.ti e = E) (hty : srcTy L ts[1]? = true) (hzs : E.zero.isSome = true) (hz : z = E.size) (hz' : z' = z) (hl : n = es0.length) (hb : n + es.length ≤ big) (hby : Nat.ble E.bytes 1024 = true) :
    ActEv L ext ⟨d, .call { callee := .builtin .append, args := #[x, y], argTypes := ts }, ty, pos, af, gd⟩ ⟨n0, sl, ob⟩ (.own s (g + 1) 0 (n + es.length)) (upd ob s (.row (g + 1) mt z (es0 ++ es))) (rd ++ [s]) [s] :=
  ⟨0, fun k _ => by
    have h1 : E.bytes ≤ 1024 := Nat.le_of_ble_eq_true hby
    subst hl
    simp [act, actBuiltin, actAppend, h0, ht, hu, he, hty, hzs, hsrc, hx, ho, hz, hz', hb, h1, Ef.run]⟩
theorem src_v {x : X} {z : Nat} {es : List (List V)} {H : Nat → Ob} (hx : x = .v (.sl z es)) (k : Nat → List (List V) → Ef Outc) : (srcOf x k).run H = (match ((k z es).run H) with | some (a, H, r, w) => some (a, H, [] ++ r, w) | .none => .none) := by
  subst hx
  simp only [srcOf, rdSl, List.nil_append]
  cases (k z es).run H with | none => rfl | some p => rfl
theorem src_lent {x : X} {z : Nat} {es : List (List V)} {H : Nat → Ob} (hx : x = .lent z es) (k : Nat → List (List V) → Ef Outc) : (srcOf x k).run H = (match ((k z es).run H) with | some (a, H, r, w) => some (a, H, [] ++ r, w) | .none => .none) := by
  subst hx
  simp only [srcOf, rdSl, List.nil_append]
  cases (k z es).run H with | none => rfl | some p => rfl
theorem src_own {x : X} {s g lo n z : Nat} {mt : Bool} {es : List (List V)} {H : Nat → Ob} (hx : x = .own s g lo n) (ho : H s = .row g mt z es) (k : Nat → List (List V) → Ef Outc) :
    (srcOf x k).run H = (match ((k z ((es.drop lo).take n)).run H) with | some (a, H, r, w) => some (a, H, [s] ++ r, w) | .none => .none) := by
  subst hx
  simp only [srcOf, rdSl, Ef.run, ho, if_true]
  cases (k z ((es.drop lo).take n)).run H with | none => rfl | some p => rfl
theorem a_appendNO {s : Tmp} {ts : Array TypeId} {t e : TypeId} {T E : TI} {x y : Operand} {z z' s' g' lo m : Nat} {mt' : Bool} {es1 es : List (List V)} (hx : (St.opd ⟨n0, sl, ob⟩) x = .nil z) (hy : (St.opd ⟨n0, sl, ob⟩) y = .own s' g' lo m) (ho' : ob s' = .row g' mt' z' es1) (hes : (es1.drop lo).take m = es)
    (h0 : ts[0]? = some t) (ht : L.ti t = T) (hu : T.und = .slice e) (he : L.ti e = E) (hty : srcTy L ts[1]? = true) (hzs : E.zero.isSome = true) (hz : z' = E.size) (hb : es.length ≤ big) (hby : Nat.ble E.bytes 1024 = true) (hne : es ≠ []) (hn : Nat.ble (s + 1) n0 = true) :
    ActEv L ext ⟨some s, .call { callee := .builtin .append, args := #[x, y], argTypes := ts }, ty, pos, af, gd⟩ ⟨n0, sl, ob⟩ (.own s ((ob s).gen + 1) 0 es.length) (upd ob s (.row ((ob s).gen + 1) true E.size es)) ([s'] ++ [s]) [s] := by
  subst hes
  exact a_appendN hx (src_own hy ho') h0 ht hu he hty hzs hz hb hby hne hn
theorem a_appendOO {ts : Array TypeId} {t e : TypeId} {T E : TI} {x y : Operand} {s g n z z' s' g' lo m : Nat} {mt mt' : Bool} {es0 es1 es : List (List V)} (hx : (St.opd ⟨n0, sl, ob⟩) x = .own s g 0 n) (ho : ob s = .row g mt z es0) (hy : (St.opd ⟨n0, sl, ob⟩) y = .own s' g' lo m) (ho' : ob s' = .row g' mt' z' es1) (hes : (es1.drop lo).take m = es)
    (h0 : ts[0]? = some t) (ht : L.ti t = T) (hu : T.und = .slice e) (he : L.ti e = E) (hty : srcTy L ts[1]? = true) (hzs : E.zero.isSome = true) (hz : z = E.size) (hz' : z' = z) (hl : n = es0.length) (hb : n + es.length ≤ big) (hby : Nat.ble E.bytes 1024 = true) :
    ActEv L ext ⟨d, .call { callee := .builtin .append, args := #[x, y], argTypes := ts }, ty, pos, af, gd⟩ ⟨n0, sl, ob⟩ (.own s (g + 1) 0 (n + es.length)) (upd ob s (.row (g + 1) mt z (es0 ++ es))) ([s'] ++ [s]) [s] := by
  subst hes
  exact a_appendO hx ho (src_own hy ho') h0 ht hu he hty hzs hz hz' hl hb hby
theorem a_appendNV {s : Tmp} {ts : Array TypeId} {t e : TypeId} {T E : TI} {x y : Operand} {z z' : Nat} {es : List (List V)} (hx : (St.opd ⟨n0, sl, ob⟩) x = .nil z) (hy : (St.opd ⟨n0, sl, ob⟩) y = .v (.sl z' es))
    (h0 : ts[0]? = some t) (ht : L.ti t = T) (hu : T.und = .slice e) (he : L.ti e = E) (hty : srcTy L ts[1]? = true) (hzs : E.zero.isSome = true) (hz : z' = E.size) (hb : es.length ≤ big) (hby : Nat.ble E.bytes 1024 = true) (hne : es ≠ []) (hn : Nat.ble (s + 1) n0 = true) :
    ActEv L ext ⟨some s, .call { callee := .builtin .append, args := #[x, y], argTypes := ts }, ty, pos, af, gd⟩ ⟨n0, sl, ob⟩ (.own s ((ob s).gen + 1) 0 es.length) (upd ob s (.row ((ob s).gen + 1) true E.size es)) ([] ++ [s]) [s] :=
  a_appendN hx (src_v hy) h0 ht hu he hty hzs hz hb hby hne hn
theorem a_appendOV {ts : Array TypeId} {t e : TypeId} {T E : TI} {x y : Operand} {s g n z z' : Nat} {mt : Bool} {es0 es : List (List V)} (hx : (St.opd ⟨n0, sl, ob⟩) x = .own s g 0 n) (ho : ob s = .row g mt z es0) (hy : (St.opd ⟨n0, sl, ob⟩) y = .v (.sl z' es))
    (h0 : ts[0]? = some t) (ht : L.ti t = T) (hu : T.und = .slice e) (he : L.ti e = E) (hty : srcTy L ts[1]? = true) (hzs : E.zero.isSome = true) (hz : z = E.size) (hz' : z' = z) (hl : n = es0.length) (hb : n + es.length ≤ big) (hby : Nat.ble E.bytes 1024 = true) :
    ActEv L ext ⟨d, .call { callee := .builtin .append, args := #[x, y], argTypes := ts }, ty, pos, af, gd⟩ ⟨n0, sl, ob⟩ (.own s (g + 1) 0 (n + es.length)) (upd ob s (.row (g + 1) mt z (es0 ++ es))) ([] ++ [s]) [s] :=
  a_appendO hx ho (src_v hy) h0 ht hu he hty hzs hz hz' hl hb hby
theorem a_buildSlice {s : Tmp} {t e : TypeId} {T E : TI} {len : Nat} {ps : Array (Nat × Operand)} {zx : List X} {zero : List V} {ys : List V} {es : List (List V)} (hp : ps.toList.map (fun p => (St.opd ⟨n0, sl, ob⟩) p.2) = ys.map X.v) (ht : L.ti t = T) (hu : T.und = .slice e) (he : L.ti e = E)
    (hz : E.zero = some zx) (hv : xvs zx = some zero) (hs : setParts (List.replicate len zero) ((ps.toList.map (·.1)).zip ys) = some es) (hb : Nat.ble (len * E.size) 65536 = true) (hn : Nat.ble (s + 1) n0 = true) :
    ActEv L ext ⟨some s, .buildSlice t len ps, ty, pos, af, gd⟩ ⟨n0, sl, ob⟩ (.own s ((ob s).gen + 1) 0 len) (upd ob s (.row ((ob s).gen + 1) true E.size es)) [s] [s] := by
  have h1 : len * E.size ≤ 65536 := Nat.le_of_ble_eq_true hb
  have fr : ∀ (l : List V) (k : List V → Ef Outc), frzs (l.map X.v) k = k l := by
    intro l
    induction l with
    | nil => intro k; rfl
    | cons v l ih => intro k; simp [frzs, frz, ih]
  refine ⟨0, fun k _ => ?_⟩
  have h2 : (ps.toList.map fun p => (p.1, (St.opd ⟨n0, sl, ob⟩) p.2)).map (·.2) = ys.map X.v := by rw [List.map_map]; exact hp
  have h3 : (ps.toList.map fun p => (p.1, (St.opd ⟨n0, sl, ob⟩) p.2)).map (·.1) = ps.toList.map (·.1) := by rw [List.map_map]; rfl
  simp only [act, actBuildSlice, ht, hu, he, hz, hv, ov, h2, h3, fr, hs, if_pos h1]
  simp [siteSome hn, nextGen, Ef.run]
theorem a_lookupHit {t k e : TypeId} {T K : TI} {x i : Operand} {s g j : Nat} {es : List (Value × V)} {kv : Value} {v : V} (hx : (St.opd ⟨n0, sl, ob⟩) x = .mapr s g) (hi : (St.opd ⟨n0, sl, ob⟩) i = .v (.lit kv)) (ho : ob s = .mp g es) (ht : L.ti t = T) (hu : T.und = .map k e) (hK : L.ti k = K) (hk : keyTy K.und = true)
    (hf : mpFind K.und kv es 0 = some (some (j, v))) :
    ActEv L ext ⟨d, .lookup t x i true, ty, pos, af, gd⟩ ⟨n0, sl, ob⟩ (.tup [.v v, .v (.lit (.bool true))]) ob [s] [] :=
  ⟨0, fun k _ => by simp [act, hx, hi, actLookup, ht, hu, hK, hk, if_true, Ef.run, ho, hf, ov]⟩
theorem a_lookupMiss {t k e : TypeId} {T K : TI} {x i : Operand} {s g : Nat} {es : List (Value × V)} {kv : Value} {v : V} (hx : (St.opd ⟨n0, sl, ob⟩) x = .mapr s g) (hi : (St.opd ⟨n0, sl, ob⟩) i = .v (.lit kv)) (ho : ob s = .mp g es) (ht : L.ti t = T) (hu : T.und = .map k e) (hK : L.ti k = K) (hk : keyTy K.und = true)
    (hz : zeroV L e = some v) (hf : mpFind K.und kv es 0 = some .none) :
    ActEv L ext ⟨d, .lookup t x i true, ty, pos, af, gd⟩ ⟨n0, sl, ob⟩ (.tup [.v v, .v (.lit (.bool false))]) ob [s] [] :=
  ⟨0, fun k _ => by simp [act, hx, hi, actLookup, ht, hu, hK, hk, if_true, Ef.run, ho, hf, hz, ov]⟩
theorem a_mapUpdate {t k e : TypeId} {T K : TI} {x i y : Operand} {s g : Nat} {es : List (Value × V)} {kv : Value} {v : V} {r : Option (Nat × V)} (hx : (St.opd ⟨n0, sl, ob⟩) x = .mapr s g) (hi : (St.opd ⟨n0, sl, ob⟩) i = .v (.lit kv)) (hy : (St.opd ⟨n0, sl, ob⟩) y = .v v) (ho : ob s = .mp g es) (ht : L.ti t = T) (hu : T.und = .map k e) (hK : L.ti k = K) (hk : keyTy K.und = true)
    (hf : mpFind K.und kv es 0 = some r) :
    ActEv L ext ⟨d, .mapUpdate t x i y, ty, pos, af, gd⟩ ⟨n0, sl, ob⟩ .undef (upd ob s (.mp g (match r with | some (j, _) => es.set j (kv, v) | .none => es ++ [(kv, v)]))) [s] [s] :=
  ⟨0, fun k _ => by cases r <;> simp [act, hx, hi, hy, retype_plain (L := L) (x := .v v) rfl, actMapUpdate, ht, hu, hK, hk, frz, Ef.run, ho, hf, ov]⟩
theorem a_extract {x : Operand} {i : Nat} {xs : List X} {y : X} (hx : (St.opd ⟨n0, sl, ob⟩) x = .tup xs) (hy : xs[i]? = some y) : ActEv L ext ⟨d, .extract x i, ty, pos, af, gd⟩ ⟨n0, sl, ob⟩ y ob [] [] :=
  ⟨0, fun k _ => by simp [act, hx, hy, ov, Ef.run]⟩

/-! ### calls -/
/-- What arguments that lie in no box of the caller's become for the callee, and which rows are read for it. -/
def handP (H : Nat → Ob) : List X → Option (List X × List Nat)
  | [] => some ([], [])
  | x :: r => match handP H r with
    | .none => .none
    | some (as, rd) => match x with
      | .v y => some (.v y :: as, rd)
      | .nil z => some (.v (.sl z []) :: as, rd)
      | .lent z es => some (.lent z es :: as, rd)
      | .clo f [] => some (.clo f [] :: as, rd)
      | .own s g lo m => match H s with
        | .row g' mt z es => if g = g' then some ((if mt then .lent z ((es.drop lo).take m) else .v (.sl z ((es.drop lo).take m))) :: as, s :: rd) else .none
        | _ => .none
      | _ => .none

theorem hand_run {n : Nat} {H : Nat → Ob} {ss : List Nat} {cs : List (List V)} : ∀ (xs : List X) {as : List X} {rd : List Nat}, handP H xs = some (as, rd) → ∀ (k : List X → List Nat → List (List V) → Ef Outc),
    (hand n xs ss cs k).run H = (match (k as ss cs).run H with | some (a, H', r, w) => some (a, H', rd ++ r, w) | .none => .none)
  | [], as, rd, h, k => by
    simp only [handP, Option.some.injEq, Prod.mk.injEq] at h
    obtain ⟨rfl, rfl⟩ := h
    simp only [hand, List.nil_append]
    cases (k [] ss cs).run H with | none => rfl | some p => rfl
  | x :: r, as, rd, h, k => by
    unfold handP at h
    split at h
    · cases h
    · rename_i as0 rd0 h0
      have ih := fun k' => hand_run r h0 (n := n) (ss := ss) (cs := cs) k'
      split at h
      · simp only [Option.some.injEq, Prod.mk.injEq] at h; obtain ⟨rfl, rfl⟩ := h; simp only [hand]; exact ih _
      · simp only [Option.some.injEq, Prod.mk.injEq] at h; obtain ⟨rfl, rfl⟩ := h; simp only [hand]; exact ih _
      · simp only [Option.some.injEq, Prod.mk.injEq] at h; obtain ⟨rfl, rfl⟩ := h; simp only [hand]; exact ih _
      · simp only [Option.some.injEq, Prod.mk.injEq] at h; obtain ⟨rfl, rfl⟩ := h; simp only [hand]; exact ih _
      · rename_i s g lo m
        split at h
        · rename_i g' mt z es hs
          split at h
          · rename_i hg
            subst hg
            simp only [Option.some.injEq, Prod.mk.injEq] at h
            obtain ⟨rfl, rfl⟩ := h
            cases mt with
            | true =>
              simp only [hand, Ef.run, hs, if_true, ih]
              generalize Ef.run _ H = q
              cases q with | none => rfl | some p => rfl
            | false =>
              simp only [hand, Ef.run, hs, if_true, ih, Bool.false_eq_true, if_false]
              generalize Ef.run _ H = q
              cases q with | none => rfl | some p => rfl
          · cases h
        · cases h
      · cases h

theorem a_call {f : Operand} {args : Array Operand} {ats : Array TypeId} {g : FuncId} {fn : Func} {caps xs as : List X} {rd : List Nat} {vs : List V} (hf : (St.opd ⟨n0, sl, ob⟩) f = .clo g caps) (hx : args.toList.map (St.opd ⟨n0, sl, ob⟩) ++ caps = xs) (hfn : L.fn.getD g .none = some fn) (hz : L.frz.contains g = false)
    (hh : handP ob xs = some (as, rd)) (hc : FnEv L ext g as [] (.ret vs, [])) (hb : L.xb.contains g = false := by rfl) (hit : L.its.lookup g = .none := by rfl) (hjn : L.jn.contains g = false := by rfl) : ActEv L ext ⟨d, .call { callee := .value f, args := args, argTypes := ats }, ty, pos, af, gd⟩ ⟨n0, sl, ob⟩ (resX vs) ob (rd ++ []) [] := by
  obtain ⟨K, hc⟩ := hc
  refine ⟨K, fun k hk => ?_⟩
  simp only [act, hf, hx, hb, hit, hjn, callF, hfn, hz, Bool.false_eq_true, if_false]
  rw [hand_run xs hh]
  simp only [hc k hk, putAll, Ef.run]

theorem a_byteAt {f : Operand} {args : Array Operand} {ats : Array TypeId} {g : FuncId} {caps : List X} {sb : ByteArray} {x : Int} (hf : (St.opd ⟨n0, sl, ob⟩) f = .clo g caps) (hb : L.xb.contains g = true) (hx : args.toList.map (St.opd ⟨n0, sl, ob⟩) ++ caps = [.v (.lit (.string sb)), .v (.lit (.int .u8 x))]) :
    ActEv L ext ⟨d, .call { callee := .value f, args := args, argTypes := ats }, ty, pos, af, gd⟩ ⟨n0, sl, ob⟩ (.v (.lit (.int .i64 (firstIdx sb x.toNat.toUInt8)))) ob [] [] :=
  ⟨0, fun k _ => by simp only [act, hf, hb, if_true, hx, actByteAt, Ef.run]⟩

end
end Go.Dv

namespace Go.Dv
open Go

def capN : IntKind → Nat
  | .i8 => 127
  | .i16 => 32767
  | .i32 => 2147483647
  | .i64 => 9223372036854775807
  | .u8 => 255
  | .u16 => 65535
  | .u32 => 4294967295
  | .u64 => 18446744073709551615

theorem wrapN {k : IntKind} {n : Nat} (h : n ≤ capN k) : k.wrap (n : Int) = (n : Int) := by
  cases k <;> simp only [capN] at h <;> simp [IntKind.wrap, IntKind.bits, IntKind.signed] <;> omega

theorem capBits (k : IntKind) : capN k < 2 ^ k.bits := by cases k <;> simp [capN, IntKind.bits]

theorem ofIntN {m n : Nat} (h : n < 2 ^ m) : (BitVec.ofInt m (n : Int)).toNat = n := by
  rw [BitVec.ofInt_natCast, BitVec.toNat_ofNat, Nat.mod_eq_of_lt h]

section
variable {L : Lite} {ext : Ext} {ops : Array Oper} {n0 : Nat} {sl : Nat → X} {ob : Nat → Ob} {d : Option Tmp} {ty : TypeId} {pos : String} {af : Array Edge} {gd : Option (Nat × Bool)}
variable {t yt : TypeId} {x y : Operand} {k k' : IntKind} {a b : Nat}

theorem n_add (hx : (St.opd ⟨n0, sl, ob⟩) x = .v (.lit (.int k (a : Int)))) (hy : (St.opd ⟨n0, sl, ob⟩) y = .v (.lit (.int k (b : Int)))) (h : a + b ≤ capN k) : ActEv L ext ⟨d, .binOp .add t x y yt, ty, pos, af, gd⟩ ⟨n0, sl, ob⟩ (.v (.lit (.int k ((a + b : Nat) : Int)))) ob [] [] :=
  a_bin hx hy (by
    have := wrapN h
    simp only [litBin, intOp, if_true]
    rw [← Int.natCast_add, this])

theorem n_sub (hx : (St.opd ⟨n0, sl, ob⟩) x = .v (.lit (.int k (a : Int)))) (hy : (St.opd ⟨n0, sl, ob⟩) y = .v (.lit (.int k (b : Int)))) (h : b ≤ a) (h2 : a - b ≤ capN k) : ActEv L ext ⟨d, .binOp .sub t x y yt, ty, pos, af, gd⟩ ⟨n0, sl, ob⟩ (.v (.lit (.int k ((a - b : Nat) : Int)))) ob [] [] :=
  a_bin hx hy (by
    have := wrapN h2
    simp only [litBin, intOp, if_true]
    rw [← Int.ofNat_sub h, this])

theorem n_mul (hx : (St.opd ⟨n0, sl, ob⟩) x = .v (.lit (.int k (a : Int)))) (hy : (St.opd ⟨n0, sl, ob⟩) y = .v (.lit (.int k (b : Int)))) (h2 : a * b ≤ capN k) : ActEv L ext ⟨d, .binOp .mul t x y yt, ty, pos, af, gd⟩ ⟨n0, sl, ob⟩ (.v (.lit (.int k ((a * b : Nat) : Int)))) ob [] [] :=
  a_bin hx hy (by
    have := wrapN h2
    simp only [litBin, intOp, if_true]
    rw [← Int.natCast_mul, this])

theorem n_quo (hx : (St.opd ⟨n0, sl, ob⟩) x = .v (.lit (.int k (a : Int)))) (hy : (St.opd ⟨n0, sl, ob⟩) y = .v (.lit (.int k (b : Int)))) (h : 0 < b) (h2 : a ≤ capN k) : ActEv L ext ⟨d, .binOp .quo t x y yt, ty, pos, af, gd⟩ ⟨n0, sl, ob⟩ (.v (.lit (.int k ((a / b : Nat) : Int)))) ob [] [] :=
  a_bin hx hy (by
    have := wrapN (k := k) (n := a / b) (Nat.le_trans (Nat.div_le_self _ _) h2)
    have hb : ¬ (b : Int) = 0 := by omega
    simp only [litBin, intOp, if_true, hb, if_false]
    rw [Int.tdiv_eq_ediv_of_nonneg (by omega), ← Int.natCast_ediv, this])

theorem n_rem (hx : (St.opd ⟨n0, sl, ob⟩) x = .v (.lit (.int k (a : Int)))) (hy : (St.opd ⟨n0, sl, ob⟩) y = .v (.lit (.int k (b : Int)))) (h : 0 < b) : ActEv L ext ⟨d, .binOp .rem t x y yt, ty, pos, af, gd⟩ ⟨n0, sl, ob⟩ (.v (.lit (.int k ((a % b : Nat) : Int)))) ob [] [] :=
  a_bin hx hy (by
    have hb : ¬ (b : Int) = 0 := by omega
    simp only [litBin, intOp, if_true, hb, if_false]
    rw [Int.tmod_eq_emod_of_nonneg (by omega), ← Int.natCast_emod])

theorem n_lss (hx : (St.opd ⟨n0, sl, ob⟩) x = .v (.lit (.int k (a : Int)))) (hy : (St.opd ⟨n0, sl, ob⟩) y = .v (.lit (.int k (b : Int)))) : ActEv L ext ⟨d, .binOp .lss t x y yt, ty, pos, af, gd⟩ ⟨n0, sl, ob⟩ (.v (.lit (.bool (decide (a < b))))) ob [] [] :=
  a_bin hx hy (by simp [litBin, intOp, cmpI])
theorem n_leq (hx : (St.opd ⟨n0, sl, ob⟩) x = .v (.lit (.int k (a : Int)))) (hy : (St.opd ⟨n0, sl, ob⟩) y = .v (.lit (.int k (b : Int)))) : ActEv L ext ⟨d, .binOp .leq t x y yt, ty, pos, af, gd⟩ ⟨n0, sl, ob⟩ (.v (.lit (.bool (decide (a ≤ b))))) ob [] [] :=
  a_bin hx hy (by simp [litBin, intOp, cmpI])
theorem n_gtr (hx : (St.opd ⟨n0, sl, ob⟩) x = .v (.lit (.int k (a : Int)))) (hy : (St.opd ⟨n0, sl, ob⟩) y = .v (.lit (.int k (b : Int)))) : ActEv L ext ⟨d, .binOp .gtr t x y yt, ty, pos, af, gd⟩ ⟨n0, sl, ob⟩ (.v (.lit (.bool (decide (a > b))))) ob [] [] :=
  a_bin hx hy (by simp [litBin, intOp, cmpI])
theorem n_geq (hx : (St.opd ⟨n0, sl, ob⟩) x = .v (.lit (.int k (a : Int)))) (hy : (St.opd ⟨n0, sl, ob⟩) y = .v (.lit (.int k (b : Int)))) : ActEv L ext ⟨d, .binOp .geq t x y yt, ty, pos, af, gd⟩ ⟨n0, sl, ob⟩ (.v (.lit (.bool (decide (a ≥ b))))) ob [] [] :=
  a_bin hx hy (by simp [litBin, intOp, cmpI])
theorem natBeq (a b : Nat) : ((a : Int) == (b : Int)) = decide (a = b) := by
  rw [Bool.eq_iff_iff]; simp; omega
theorem n_eql (hx : (St.opd ⟨n0, sl, ob⟩) x = .v (.lit (.int k (a : Int)))) (hy : (St.opd ⟨n0, sl, ob⟩) y = .v (.lit (.int k (b : Int)))) : ActEv L ext ⟨d, .binOp .eql t x y yt, ty, pos, af, gd⟩ ⟨n0, sl, ob⟩ (.v (.lit (.bool (decide (a = b))))) ob [] [] :=
  a_bin hx hy (by simp only [litBin, intOp, if_true, cmpI, natBeq])
theorem n_neq (hx : (St.opd ⟨n0, sl, ob⟩) x = .v (.lit (.int k (a : Int)))) (hy : (St.opd ⟨n0, sl, ob⟩) y = .v (.lit (.int k (b : Int)))) : ActEv L ext ⟨d, .binOp .neq t x y yt, ty, pos, af, gd⟩ ⟨n0, sl, ob⟩ (.v (.lit (.bool (decide (a ≠ b))))) ob [] [] :=
  a_bin hx hy (by
    have : ((a : Int) != (b : Int)) = decide (a ≠ b) := by simp only [bne, natBeq]; by_cases h : a = b <;> simp [h]
    simp only [litBin, intOp, if_true, cmpI, this])

theorem n_shr (hx : (St.opd ⟨n0, sl, ob⟩) x = .v (.lit (.int k (a : Int)))) (hy : (St.opd ⟨n0, sl, ob⟩) y = .v (.lit (.int k' (b : Int)))) (h : b ≤ k.bits) : ActEv L ext ⟨d, .binOp .shr t x y yt, ty, pos, af, gd⟩ ⟨n0, sl, ob⟩ (.v (.lit (.int k ((a / 2 ^ b : Nat) : Int)))) ob [] [] :=
  a_bin hx hy (by
    have hb : ¬ (b : Int) < 0 := by omega
    simp only [litBin, intOp, hb, if_false, Int.toNat_natCast, Nat.min_eq_left h]
    rw [Int.fdiv_eq_ediv_of_nonneg _ (by exact_mod_cast Nat.zero_le _)]
    congr 2)

theorem n_shl (hx : (St.opd ⟨n0, sl, ob⟩) x = .v (.lit (.int k (a : Int)))) (hy : (St.opd ⟨n0, sl, ob⟩) y = .v (.lit (.int k' (b : Int)))) (h : b ≤ k.bits) (h2 : a * 2 ^ b ≤ capN k) : ActEv L ext ⟨d, .binOp .shl t x y yt, ty, pos, af, gd⟩ ⟨n0, sl, ob⟩ (.v (.lit (.int k ((a * 2 ^ b : Nat) : Int)))) ob [] [] :=
  a_bin hx hy (by
    have hb : ¬ (b : Int) < 0 := by omega
    have := wrapN h2
    simp only [litBin, intOp, hb, if_false, Int.toNat_natCast, Nat.min_eq_left h]
    rw [← this]
    congr 3)

theorem bitN {op : Nat → Nat → Nat} {k : IntKind} {a b : Nat} (ha : a ≤ capN k) (hb : b ≤ capN k) : a < 2 ^ k.bits ∧ b < 2 ^ k.bits := ⟨Nat.lt_of_le_of_lt ha (capBits k), Nat.lt_of_le_of_lt hb (capBits k)⟩

theorem orCap {k : IntKind} {a b : Nat} (ha : a ≤ capN k) (hb : b ≤ capN k) : a ||| b ≤ capN k := by
  have : ∀ m, a < 2 ^ m → b < 2 ^ m → a ||| b < 2 ^ m := fun m h1 h2 => Nat.or_lt_two_pow h1 h2
  cases k <;> simp only [capN] at ha hb ⊢
  · have := this 7 (by omega) (by omega); omega
  · have := this 15 (by omega) (by omega); omega
  · have := this 31 (by omega) (by omega); omega
  · have := this 63 (by omega) (by omega); omega
  · have := this 8 (by omega) (by omega); omega
  · have := this 16 (by omega) (by omega); omega
  · have := this 32 (by omega) (by omega); omega
  · have := this 64 (by omega) (by omega); omega

theorem andCap {k : IntKind} {a b : Nat} (ha : a ≤ capN k) : a &&& b ≤ capN k := Nat.le_trans Nat.and_le_left ha

theorem n_or (hx : (St.opd ⟨n0, sl, ob⟩) x = .v (.lit (.int k (a : Int)))) (hy : (St.opd ⟨n0, sl, ob⟩) y = .v (.lit (.int k (b : Int)))) (ha : a ≤ capN k) (hb : b ≤ capN k) : ActEv L ext ⟨d, .binOp .or t x y yt, ty, pos, af, gd⟩ ⟨n0, sl, ob⟩ (.v (.lit (.int k ((a ||| b : Nat) : Int)))) ob [] [] :=
  a_bin hx hy (by
    have := bitN (op := Nat.lor) ha hb
    simp only [litBin, intOp, if_true, bitI, BitVec.toNat_or, ofIntN this.1, ofIntN this.2, wrapN (orCap ha hb)])

theorem n_and (hx : (St.opd ⟨n0, sl, ob⟩) x = .v (.lit (.int k (a : Int)))) (hy : (St.opd ⟨n0, sl, ob⟩) y = .v (.lit (.int k (b : Int)))) (ha : a ≤ capN k) (hb : b ≤ capN k) : ActEv L ext ⟨d, .binOp .and t x y yt, ty, pos, af, gd⟩ ⟨n0, sl, ob⟩ (.v (.lit (.int k ((a &&& b : Nat) : Int)))) ob [] [] :=
  a_bin hx hy (by
    have := bitN (op := Nat.lor) ha hb
    simp only [litBin, intOp, if_true, bitI, BitVec.toNat_and, ofIntN this.1, ofIntN this.2, wrapN (andCap ha)])

/-- The bits of a 64-bit word turned about. -/
theorem n_not64 (hx : (St.opd ⟨n0, sl, ob⟩) x = .v (.lit (.int .u64 (a : Int)))) (ha : a < 2 ^ 64) : ActEv L ext ⟨d, .unOp .xor t x, ty, pos, af, gd⟩ ⟨n0, sl, ob⟩ (.v (.lit (.int .u64 ((2 ^ 64 - 1 - a : Nat) : Int)))) ob [] [] :=
  a_un hx (by
    have h1 : (BitVec.ofInt 64 18446744073709551615 ^^^ BitVec.ofInt 64 (a : Int)).toNat = 2 ^ 64 - 1 - a := by
      have : BitVec.ofInt 64 18446744073709551615 = BitVec.allOnes 64 := by decide
      rw [this, BitVec.allOnes_xor, BitVec.toNat_not, ofIntN ha]
    have h2 := wrapN (k := .u64) (n := 2 ^ 64 - 1 - a) (by simp only [capN]; omega)
    show some (Value.int .u64 (IntKind.u64.wrap ((BitVec.ofInt 64 (2 ^ 64 - 1) ^^^ BitVec.ofInt 64 (a : Int)).toNat : Int))) = _
    rw [show ((2 : Int) ^ 64 - 1) = 18446744073709551615 from by decide, h1, h2])

theorem n_conv {src dst : TypeId} {S D : TI} (hx : (St.opd ⟨n0, sl, ob⟩) x = .v (.lit (.int k (a : Int)))) (hs : L.ti src = S) (hk : (S.kd == 0) = false) (hd : L.ti dst = D) (hu : D.und = .int k') (h : a ≤ capN k') :
    ActEv L ext ⟨d, .convert src dst x, ty, pos, af, gd⟩ ⟨n0, sl, ob⟩ (.v (.lit (.int k' (a : Int)))) ob [] [] := by
  have := a_convInt (L := L) (ext := ext) (d := d) (ty := ty) (pos := pos) (af := af) (gd := gd) hx hs hk hd hu
  rwa [wrapN h] at this

theorem n_indexAddrA {e : TypeId} {T E : TI} {s g off len : Nat} (hx : (St.opd ⟨n0, sl, ob⟩) x = .addr s g off) (hi : (St.opd ⟨n0, sl, ob⟩) y = .v (.lit (.int k (a : Int)))) (ht : L.ti t = T) (hu : T.und = .array len e) (he : L.ti e = E) (h1 : a < len) :
    ActEv L ext ⟨d, .indexAddr t x y, ty, pos, af, gd⟩ ⟨n0, sl, ob⟩ (.addr s g (off + a * E.size)) ob [] [] := by
  have := a_indexAddrA (L := L) (ext := ext) (d := d) (ty := ty) (pos := pos) (af := af) (gd := gd) hx hi ht hu he (by omega) (by omega)
  rwa [Int.toNat_natCast] at this
theorem n_indexAddrV {e : TypeId} {T E : TI} {z : Nat} {es : List (List V)} {c : List V} (hx : (St.opd ⟨n0, sl, ob⟩) x = .v (.sl z es)) (hi : (St.opd ⟨n0, sl, ob⟩) y = .v (.lit (.int k (a : Int)))) (ht : L.ti t = T) (hu : T.und = .slice e) (he : L.ti e = E) (hz : z = E.size) (hc : es[a]? = some c) :
    ActEv L ext ⟨d, .indexAddr t x y, ty, pos, af, gd⟩ ⟨n0, sl, ob⟩ (.ro c) ob [] [] :=
  a_indexAddrV hx hi ht hu he hz (by omega) (by rw [Int.toNat_natCast]; exact hc)
theorem n_indexAddrL {e : TypeId} {T E : TI} {z : Nat} {es : List (List V)} {c : List V} (hx : (St.opd ⟨n0, sl, ob⟩) x = .lent z es) (hi : (St.opd ⟨n0, sl, ob⟩) y = .v (.lit (.int k (a : Int)))) (ht : L.ti t = T) (hu : T.und = .slice e) (he : L.ti e = E) (hz : z = E.size) (hc : es[a]? = some c) :
    ActEv L ext ⟨d, .indexAddr t x y, ty, pos, af, gd⟩ ⟨n0, sl, ob⟩ (.ro c) ob [] [] :=
  a_indexAddrL hx hi ht hu he hz (by omega) (by rw [Int.toNat_natCast]; exact hc)
theorem n_indexAddrO {e : TypeId} {T E : TI} {s g lo m z : Nat} {mt : Bool} {es : List (List V)} (hx : (St.opd ⟨n0, sl, ob⟩) x = .own s g lo m) (hi : (St.opd ⟨n0, sl, ob⟩) y = .v (.lit (.int k (a : Int)))) (ho : ob s = .row g mt z es) (ht : L.ti t = T) (hu : T.und = .slice e) (he : L.ti e = E) (hz : z = E.size) (h1 : a < m) :
    ActEv L ext ⟨d, .indexAddr t x y, ty, pos, af, gd⟩ ⟨n0, sl, ob⟩ (.elt s g (lo + a) 0) ob [s] [] := by
  have := a_indexAddrO (L := L) (ext := ext) (d := d) (ty := ty) (pos := pos) (af := af) (gd := gd) hx hi ho ht hu he hz (by omega) (by omega)
  rwa [Int.toNat_natCast] at this
theorem n_indexStr {T : TI} {sb : ByteArray} {c : UInt8} (hx : (St.opd ⟨n0, sl, ob⟩) x = .v (.lit (.string sb))) (hi : (St.opd ⟨n0, sl, ob⟩) y = .v (.lit (.int k (a : Int)))) (ht : L.ti t = T) (hu : T.und = .string) (hb : sb[a]? = some c) :
    ActEv L ext ⟨d, .index t x y, ty, pos, af, gd⟩ ⟨n0, sl, ob⟩ (.v (.lit (.int .u8 c.toNat))) ob [] [] :=
  a_indexStr hx hi ht hu (by omega) (by rw [Int.toNat_natCast]; exact hb)
theorem n_indexArr1 {e : TypeId} {T E : TI} {cs : List V} {v : V} {len : Nat} (hx : (St.opd ⟨n0, sl, ob⟩) x = .v (.agg cs)) (hi : (St.opd ⟨n0, sl, ob⟩) y = .v (.lit (.int k (a : Int)))) (ht : L.ti t = T) (hu : T.und = .array len e) (he : L.ti e = E) (hk : E.kd = 1) (h1 : a < len) (hy : cs[a * E.size]? = some v) :
    ActEv L ext ⟨d, .index t x y, ty, pos, af, gd⟩ ⟨n0, sl, ob⟩ (.v v) ob [] [] :=
  a_indexArr1 hx hi ht hu he hk (by omega) (by omega) (by rw [Int.toNat_natCast]; exact hy)


/-! ### ends -/
theorem end_cell2 {fn : Func} {a t : Nat} {T : TI} {s g off : Nat} {cs : List X} {ys : List V} (hr : fn.results.toList = [.cell a t]) (hx : sl a = .addr s g off) (ho : ob s = .box g cs) (ht : L.ti t = T) (hk : T.kd = 2) (hl : off + T.size ≤ cs.length)
    (hy : xvs ((cs.drop off).take T.size) = some ys) : endF L fn 0 (.ret [.agg ys], []) .ret ⟨n0, sl, ob⟩ := by
  refine ⟨[.agg ys], ob, [s], [], rfl, ?_, rfl⟩
  rw [hr]
  simp [resEf, hx, Ef.run, ho, ht, hk, hl, hy, ov]
theorem end_cell1 {fn : Func} {a t : Nat} {T : TI} {s g off : Nat} {cs : List X} {v : V} (hr : fn.results.toList = [.cell a t]) (hx : sl a = .addr s g off) (ho : ob s = .box g cs) (ht : L.ti t = T) (hk : T.kd = 1) (hy : cs[off]? = some (.v v)) :
    endF L fn 0 (.ret [v], []) .ret ⟨n0, sl, ob⟩ := by
  refine ⟨[v], ob, [s], [], rfl, ?_, rfl⟩
  rw [hr]
  simp [resEf, hx, Ef.run, ho, ht, hk, hy, ov, frz]
theorem end_tmp {fn : Func} {a : Nat} {v : V} (hr : fn.results.toList = [.tmp a]) (hx : sl a = .v v) : endF L fn 0 (.ret [v], []) .ret ⟨n0, sl, ob⟩ := by
  refine ⟨[v], ob, [], [], rfl, ?_, rfl⟩
  rw [hr]
  simp [resEf, hx, Ef.run, frz]
theorem end_nil {fn : Func} {a z : Nat} (hr : fn.results.toList = [.tmp a]) (hx : sl a = .nil z) : endF L fn 0 (.ret [.sl z []], []) .ret ⟨n0, sl, ob⟩ := by
  refine ⟨[.sl z []], ob, [], [], rfl, ?_, rfl⟩
  rw [hr]
  simp [resEf, hx, Ef.run, frz]
theorem end_own {fn : Func} {a s g lo n z : Nat} {es : List (List V)} (hr : fn.results.toList = [.tmp a]) (hx : sl a = .own s g lo n) (ho : ob s = .row g true z es) : endF L fn 0 (.ret [.sl z ((es.drop lo).take n)], []) .ret ⟨n0, sl, ob⟩ := by
  refine ⟨[.sl z ((es.drop lo).take n)], upd ob s (.row g false z es), [s], [s], rfl, ?_, rfl⟩
  rw [hr]
  simp [resEf, hx, Ef.run, frz, ho]
theorem end_ownE {fn : Func} {a s g lo n z : Nat} {es es' : List (List V)} (hr : fn.results.toList = [.tmp a]) (hx : sl a = .own s g lo n) (ho : ob s = .row g true z es) (he : (es.drop lo).take n = es') : endF L fn 0 (.ret [.sl z es'], []) .ret ⟨n0, sl, ob⟩ := by
  subst he; exact end_own hr hx ho

end
end Go.Dv

namespace Go.Dv
open Go

section
variable {L : Lite} {ext : Ext} {n0 : Nat} {sl : Nat → X} {ob : Nat → Ob} {d : Option Tmp} {ty : TypeId} {pos : String} {af : Array Edge} {gd : Option (Nat × Bool)} {t yt : TypeId} {x y : Operand} {k : IntKind} {a b : Nat}
theorem n_eqlT (h : a = b) (hx : (St.opd ⟨n0, sl, ob⟩) x = .v (.lit (.int k (a : Int)))) (hy : (St.opd ⟨n0, sl, ob⟩) y = .v (.lit (.int k (b : Int)))) : ActEv L ext ⟨d, .binOp .eql t x y yt, ty, pos, af, gd⟩ ⟨n0, sl, ob⟩ (.v (.lit (.bool true))) ob [] [] := by
  have := n_eql (L := L) (ext := ext) (d := d) (ty := ty) (pos := pos) (af := af) (gd := gd) (t := t) (yt := yt) hx hy
  rwa [decide_eq_true h] at this
theorem n_eqlF (h : ¬ a = b) (hx : (St.opd ⟨n0, sl, ob⟩) x = .v (.lit (.int k (a : Int)))) (hy : (St.opd ⟨n0, sl, ob⟩) y = .v (.lit (.int k (b : Int)))) : ActEv L ext ⟨d, .binOp .eql t x y yt, ty, pos, af, gd⟩ ⟨n0, sl, ob⟩ (.v (.lit (.bool false))) ob [] [] := by
  have := n_eql (L := L) (ext := ext) (d := d) (ty := ty) (pos := pos) (af := af) (gd := gd) (t := t) (yt := yt) hx hy
  rwa [decide_eq_false h] at this
theorem n_neqT (h : a ≠ b) (hx : (St.opd ⟨n0, sl, ob⟩) x = .v (.lit (.int k (a : Int)))) (hy : (St.opd ⟨n0, sl, ob⟩) y = .v (.lit (.int k (b : Int)))) : ActEv L ext ⟨d, .binOp .neq t x y yt, ty, pos, af, gd⟩ ⟨n0, sl, ob⟩ (.v (.lit (.bool true))) ob [] [] := by
  have := n_neq (L := L) (ext := ext) (d := d) (ty := ty) (pos := pos) (af := af) (gd := gd) (t := t) (yt := yt) hx hy
  rwa [decide_eq_true h] at this
theorem n_neqF (h : ¬ a ≠ b) (hx : (St.opd ⟨n0, sl, ob⟩) x = .v (.lit (.int k (a : Int)))) (hy : (St.opd ⟨n0, sl, ob⟩) y = .v (.lit (.int k (b : Int)))) : ActEv L ext ⟨d, .binOp .neq t x y yt, ty, pos, af, gd⟩ ⟨n0, sl, ob⟩ (.v (.lit (.bool false))) ob [] [] := by
  have := n_neq (L := L) (ext := ext) (d := d) (ty := ty) (pos := pos) (af := af) (gd := gd) (t := t) (yt := yt) hx hy
  rwa [decide_eq_false h] at this
theorem n_lssT (h : a < b) (hx : (St.opd ⟨n0, sl, ob⟩) x = .v (.lit (.int k (a : Int)))) (hy : (St.opd ⟨n0, sl, ob⟩) y = .v (.lit (.int k (b : Int)))) : ActEv L ext ⟨d, .binOp .lss t x y yt, ty, pos, af, gd⟩ ⟨n0, sl, ob⟩ (.v (.lit (.bool true))) ob [] [] := by
  have := n_lss (L := L) (ext := ext) (d := d) (ty := ty) (pos := pos) (af := af) (gd := gd) (t := t) (yt := yt) hx hy
  rwa [decide_eq_true h] at this
theorem n_lssF (h : ¬ a < b) (hx : (St.opd ⟨n0, sl, ob⟩) x = .v (.lit (.int k (a : Int)))) (hy : (St.opd ⟨n0, sl, ob⟩) y = .v (.lit (.int k (b : Int)))) : ActEv L ext ⟨d, .binOp .lss t x y yt, ty, pos, af, gd⟩ ⟨n0, sl, ob⟩ (.v (.lit (.bool false))) ob [] [] := by
  have := n_lss (L := L) (ext := ext) (d := d) (ty := ty) (pos := pos) (af := af) (gd := gd) (t := t) (yt := yt) hx hy
  rwa [decide_eq_false h] at this
theorem n_leqT (h : a ≤ b) (hx : (St.opd ⟨n0, sl, ob⟩) x = .v (.lit (.int k (a : Int)))) (hy : (St.opd ⟨n0, sl, ob⟩) y = .v (.lit (.int k (b : Int)))) : ActEv L ext ⟨d, .binOp .leq t x y yt, ty, pos, af, gd⟩ ⟨n0, sl, ob⟩ (.v (.lit (.bool true))) ob [] [] := by
  have := n_leq (L := L) (ext := ext) (d := d) (ty := ty) (pos := pos) (af := af) (gd := gd) (t := t) (yt := yt) hx hy
  rwa [decide_eq_true h] at this
theorem n_leqF (h : ¬ a ≤ b) (hx : (St.opd ⟨n0, sl, ob⟩) x = .v (.lit (.int k (a : Int)))) (hy : (St.opd ⟨n0, sl, ob⟩) y = .v (.lit (.int k (b : Int)))) : ActEv L ext ⟨d, .binOp .leq t x y yt, ty, pos, af, gd⟩ ⟨n0, sl, ob⟩ (.v (.lit (.bool false))) ob [] [] := by
  have := n_leq (L := L) (ext := ext) (d := d) (ty := ty) (pos := pos) (af := af) (gd := gd) (t := t) (yt := yt) hx hy
  rwa [decide_eq_false h] at this
theorem n_gtrT (h : a > b) (hx : (St.opd ⟨n0, sl, ob⟩) x = .v (.lit (.int k (a : Int)))) (hy : (St.opd ⟨n0, sl, ob⟩) y = .v (.lit (.int k (b : Int)))) : ActEv L ext ⟨d, .binOp .gtr t x y yt, ty, pos, af, gd⟩ ⟨n0, sl, ob⟩ (.v (.lit (.bool true))) ob [] [] := by
  have := n_gtr (L := L) (ext := ext) (d := d) (ty := ty) (pos := pos) (af := af) (gd := gd) (t := t) (yt := yt) hx hy
  rwa [decide_eq_true h] at this
theorem n_gtrF (h : ¬ a > b) (hx : (St.opd ⟨n0, sl, ob⟩) x = .v (.lit (.int k (a : Int)))) (hy : (St.opd ⟨n0, sl, ob⟩) y = .v (.lit (.int k (b : Int)))) : ActEv L ext ⟨d, .binOp .gtr t x y yt, ty, pos, af, gd⟩ ⟨n0, sl, ob⟩ (.v (.lit (.bool false))) ob [] [] := by
  have := n_gtr (L := L) (ext := ext) (d := d) (ty := ty) (pos := pos) (af := af) (gd := gd) (t := t) (yt := yt) hx hy
  rwa [decide_eq_false h] at this
theorem n_geqT (h : a ≥ b) (hx : (St.opd ⟨n0, sl, ob⟩) x = .v (.lit (.int k (a : Int)))) (hy : (St.opd ⟨n0, sl, ob⟩) y = .v (.lit (.int k (b : Int)))) : ActEv L ext ⟨d, .binOp .geq t x y yt, ty, pos, af, gd⟩ ⟨n0, sl, ob⟩ (.v (.lit (.bool true))) ob [] [] := by
  have := n_geq (L := L) (ext := ext) (d := d) (ty := ty) (pos := pos) (af := af) (gd := gd) (t := t) (yt := yt) hx hy
  rwa [decide_eq_true h] at this
theorem n_geqF (h : ¬ a ≥ b) (hx : (St.opd ⟨n0, sl, ob⟩) x = .v (.lit (.int k (a : Int)))) (hy : (St.opd ⟨n0, sl, ob⟩) y = .v (.lit (.int k (b : Int)))) : ActEv L ext ⟨d, .binOp .geq t x y yt, ty, pos, af, gd⟩ ⟨n0, sl, ob⟩ (.v (.lit (.bool false))) ob [] [] := by
  have := n_geq (L := L) (ext := ext) (d := d) (ty := ty) (pos := pos) (af := af) (gd := gd) (t := t) (yt := yt) hx hy
  rwa [decide_eq_false h] at this
theorem eqCell_refl {v : V} (h : litK v ≠ 0) : eqCell v v = some true := by
  unfold litK at h
  split at h <;> first | (simp [eqCell]; done) | (exact absurd rfl h) | (rename_i s; exact (congrArg some (show (s == s) = true from (show (s.data == s.data) = true by simp))))
theorem eqCells_refl : ∀ {l : List V}, (∀ v ∈ l, litK v ≠ 0) → eqCells l l = some true
  | [], _ => rfl
  | v :: l, h => by
    simp only [eqCells, eqCell_refl (h v (List.mem_cons_self)), eqCells_refl fun w hw => h w (List.mem_cons_of_mem _ hw)]
    rfl
/-- '==' of two aggregates that are the same. -/
theorem a_eqAggT {l m : List V} (h : l = m) (hx : (St.opd ⟨n0, sl, ob⟩) x = .v (.agg l)) (hy : (St.opd ⟨n0, sl, ob⟩) y = .v (.agg m)) (hk : L.eqt.lookup t = some (l.map litK)) (hz : ∀ v ∈ l, litK v ≠ 0) :
    ActEv L ext ⟨d, .binOp .eql t x y yt, ty, pos, af, gd⟩ ⟨n0, sl, ob⟩ (.v (.lit (.bool true))) ob [] [] := by
  subst h
  exact a_eqAgg hx hy hk rfl (eqCells_refl hz)
theorem a_neAggF {l m : List V} (h : l = m) (hx : (St.opd ⟨n0, sl, ob⟩) x = .v (.agg l)) (hy : (St.opd ⟨n0, sl, ob⟩) y = .v (.agg m)) (hk : L.eqt.lookup t = some (l.map litK)) (hz : ∀ v ∈ l, litK v ≠ 0) :
    ActEv L ext ⟨d, .binOp .neq t x y yt, ty, pos, af, gd⟩ ⟨n0, sl, ob⟩ (.v (.lit (.bool false))) ob [] [] := by
  subst h
  exact a_neAgg hx hy hk rfl (eqCells_refl hz)
theorem a_binBT {op : BinOp} {T : TI} {p q r : Bool} (hr : boolOp op p q = some (.bool r)) (hx : (St.opd ⟨n0, sl, ob⟩) x = .v (.lit (.bool p))) (hy : (St.opd ⟨n0, sl, ob⟩) y = .v (.lit (.bool q))) (ht : L.ti t = T) (hu : T.und = .bool) :
    ActEv L ext ⟨d, .binOp op t x y yt, ty, pos, af, gd⟩ ⟨n0, sl, ob⟩ (.v (.lit (.bool r))) ob [] [] := a_binB hx hy ht hu hr
end
end Go.Dv

namespace Go.Dv
open Go Go.ChangeShapes Go.WideShapes Go.ChangeAt Go.RowKit

/-- All cells of a world. -/
def wmem (w : World) : Mem := fun b o => w.cell? ⟨b, o, none⟩

/-- Data of a type, cell by cell. -/
inductive Typed (P : Program) : TypeId → List V → Prop
  | bool {t : TypeId} (h : P.underlying t = some .bool) (b : Bool) : Typed P t [.lit (.bool b)]
  | int {t : TypeId} {k : IntKind} (h : P.underlying t = some (.int k)) (n : Int) (hw : (Lit.int k n).wf = true) : Typed P t [.lit (.int k n)]
  | string {t : TypeId} (h : P.underlying t = some .string) (s : ByteArray) (hs : s.size ≤ maxLen) : Typed P t [.lit (.string s)]
  | slice {t e : TypeId} (h : P.underlying t = some (.slice e)) (es : List (List V)) (hl : es.length ≤ maxLen) (hr : ∀ row ∈ es, Typed P e row) : Typed P t [.sl (P.cellsOf e) es]
  | struct {t : TypeId} {fs : Array Field} (h : P.underlying t = some (.struct fs)) (cs : List V) (hl : cs.length = P.cellsOf t) (hr : ∀ f ∈ fs.toList, Typed P f.type ((cs.drop f.offset).take (P.cellsOf f.type))) : Typed P t cs
  | array {t e : TypeId} {n : Nat} (h : P.underlying t = some (.array n e)) (cs : List V) (hl : cs.length = n * P.cellsOf e) (hr : ∀ i, i < n → Typed P e ((cs.drop (i * P.cellsOf e)).take (P.cellsOf e))) : Typed P t cs

/-- Fields that lie one behind the other. -/
def layB (P : Program) : Nat → List Field → Nat → Bool
  | off, [], total => off == total
  | off, f :: r, total => (f.offset == off) && layB P (off + P.cellsOf f.type) r total

/-- Types of plain data, closed under their parts. -/
def plainB (P : Program) (ts : List TypeId) : Bool :=
  ts.all fun t => match P.underlying t with
    | some .bool => P.cellsOf t == 1
    | some (.int _) => P.cellsOf t == 1
    | some .string => P.cellsOf t == 1
    | some (.slice e) => (ts.contains e && Nat.ble 1 (P.cellsOf e)) && (P.cellsOf t == 1)
    | some (.struct fs) => layB P 0 fs.toList (P.cellsOf t) && fs.toList.all fun f => ts.contains f.type
    | some (.array n e) => ts.contains e && (n * P.cellsOf e == P.cellsOf t)
    | _ => false

section
variable {H : Type} {enc : TypeId × Value → H} {P : Program} {w : World}

def Good1 (P : Program) (mu : Mem) (t : TypeId) (cs : List Value) (xs : List V) : Prop :=
  RepL mu xs cs ∧ (∀ x ∈ xs, x.flat = true) ∧ Typed P t xs

theorem one_rep {mu : Mem} {x : V} {u : Value} (h : RepV mu x u) : RepL mu [x] [u] := by
  refine ⟨rfl, fun j y v hy hv => ?_⟩
  cases j with
  | zero => simp at hy hv; subst hy; subst hv; exact h
  | succ j => simp at hy

theorem RepL.app {mu : Mem} {xs ys : List V} {us vs : List Value} (h : RepL mu xs us) (k : RepL mu ys vs) : RepL mu (xs ++ ys) (us ++ vs) := by
  obtain ⟨h1, h2⟩ := h
  obtain ⟨k1, k2⟩ := k
  refine ⟨by simp [h1, k1], fun j y u hy hu => ?_⟩
  by_cases hj : j < xs.length
  · rw [List.getElem?_append_left hj] at hy
    rw [List.getElem?_append_left (by omega)] at hu
    exact h2 j y u hy hu
  · rw [List.getElem?_append_right (by omega)] at hy
    rw [List.getElem?_append_right (by omega)] at hu
    rw [← h1] at hu
    exact k2 _ y u hy hu

theorem glueF {mu : Mem} : ∀ (fs : List Field) (off : Nat) (cs : List Value), layB P off fs cs.length = true →
    (∀ f ∈ fs, ∃ xs, Good1 P mu f.type ((cs.drop f.offset).take (P.cellsOf f.type)) xs ∧ xs.length = P.cellsOf f.type) →
    ∃ ys : List V, RepL mu ys (cs.drop off) ∧ (∀ y ∈ ys, y.flat = true) ∧ ∀ f ∈ fs, off ≤ f.offset ∧ Typed P f.type ((ys.drop (f.offset - off)).take (P.cellsOf f.type))
  | [], off, cs, hl, _ => by
    have : off = cs.length := by simpa [layB] using hl
    subst this
    exact ⟨[], ⟨by simp, fun j y u hy => by simp at hy⟩, fun y hy => by simp at hy, fun f hf => by simp at hf⟩
  | f :: r, off, cs, hl, hg => by
    simp only [layB, Bool.and_eq_true, beq_iff_eq] at hl
    obtain ⟨ho, hl⟩ := hl
    obtain ⟨xs, ⟨h1, h2, h3⟩, hx⟩ := hg f List.mem_cons_self
    obtain ⟨ys, k1, k2, k3⟩ := glueF r (off + P.cellsOf f.type) cs hl fun g hg' => hg g (List.mem_cons_of_mem _ hg')
    rw [ho] at h1
    have e : (cs.drop off).take (P.cellsOf f.type) ++ cs.drop (off + P.cellsOf f.type) = cs.drop off := by
      rw [← List.drop_drop]; exact List.take_append_drop _ _
    refine ⟨xs ++ ys, e ▸ h1.app k1, ?_, ?_⟩
    · intro y hy
      rcases List.mem_append.1 hy with hy | hy
      · exact h2 y hy
      · exact k2 y hy
    · intro g hg'
      rcases List.mem_cons.1 hg' with rfl | hg'
      · refine ⟨by omega, ?_⟩
        rw [show g.offset - off = 0 by omega, List.drop_zero, ← hx, List.take_left']
        · exact h3
        · rfl
      · obtain ⟨k4, k5⟩ := k3 g hg'
        refine ⟨by omega, ?_⟩
        rw [show g.offset - off = xs.length + (g.offset - (off + P.cellsOf f.type)) by omega, ← List.drop_drop, List.drop_left']
        · exact k5
        · rfl

theorem glueA {mu : Mem} {e : TypeId} : ∀ (n : Nat) (cs : List Value), cs.length = n * P.cellsOf e →
    (∀ i, i < n → ∃ xs, Good1 P mu e ((cs.drop (i * P.cellsOf e)).take (P.cellsOf e)) xs ∧ xs.length = P.cellsOf e) →
    ∃ ys : List V, RepL mu ys cs ∧ (∀ y ∈ ys, y.flat = true) ∧ ∀ i, i < n → Typed P e ((ys.drop (i * P.cellsOf e)).take (P.cellsOf e))
  | 0, cs, hl, _ => by
    have : cs = [] := List.eq_nil_of_length_eq_zero (by omega)
    subst this
    exact ⟨[], ⟨rfl, fun j y u hy => by simp at hy⟩, fun y hy => by simp at hy, fun i hi => by omega⟩
  | n + 1, cs, hl, hg => by
    have hl' : cs.length = n * P.cellsOf e + P.cellsOf e := by rw [hl, Nat.succ_mul]
    obtain ⟨xs, ⟨h1, h2, h3⟩, hx⟩ := hg 0 (by omega)
    rw [Nat.zero_mul, List.drop_zero] at h1
    obtain ⟨ys, k1, k2, k3⟩ := glueA (e := e) n (cs.drop (P.cellsOf e)) (by rw [List.length_drop]; omega) fun i hi => by
      obtain ⟨xs, h, hx⟩ := hg (i + 1) (by omega)
      rw [Nat.succ_mul, Nat.add_comm, ← List.drop_drop] at h
      exact ⟨xs, h, hx⟩
    have e0 : cs.take (P.cellsOf e) ++ cs.drop (P.cellsOf e) = cs := List.take_append_drop _ _
    refine ⟨xs ++ ys, e0 ▸ h1.app k1, ?_, ?_⟩
    · intro y hy
      rcases List.mem_append.1 hy with hy | hy
      · exact h2 y hy
      · exact k2 y hy
    · intro i hi
      cases i with
      | zero =>
        rw [Nat.zero_mul, List.drop_zero, ← hx, List.take_left']
        · exact h3
        · rfl
      | succ i =>
        rw [Nat.succ_mul, Nat.add_comm, ← hx, ← List.drop_drop, List.drop_left' rfl, hx]
        exact k3 i (by omega)

theorem plain_at {ts : List TypeId} (hp : plainB P ts = true) {t : TypeId} (ht : t ∈ ts) : (match P.underlying t with
    | some .bool => P.cellsOf t == 1
    | some (.int _) => P.cellsOf t == 1
    | some .string => P.cellsOf t == 1
    | some (.slice e) => (ts.contains e && Nat.ble 1 (P.cellsOf e)) && (P.cellsOf t == 1)
    | some (.struct fs) => layB P 0 fs.toList (P.cellsOf t) && fs.toList.all fun f => ts.contains f.type
    | some (.array n e) => ts.contains e && (n * P.cellsOf e == P.cellsOf t)
    | _ => false) = true := List.all_eq_true.1 hp t ht

theorem cells_row {a : Addr} {n : Nat} {base : Nat} {cs : List Value} (h : w.cells? base a n = some cs) : cs.length = n ∧ ∀ j, j < n → w.cell? (a.add j) = cs[j]? := by
  unfold World.cells? at h
  split at h
  · refine ⟨by simpa using mapM_some_length h, fun j hj => ?_⟩
    exact mapM_some_get h j j (by simp [hj])
  · cases h

theorem cell_spot {b o : Nat} {s : Option Nat} {v : Value} (h : w.cell? ⟨b, o, s⟩ = some v) : s = none ∧ w.cell? ⟨b, o, none⟩ = some v := by
  unfold World.cell? at h ⊢
  cases s with
  | none => exact ⟨rfl, h⟩
  | some s =>
    split at h
    · simp at h
    · cases h

theorem trod_len {ts : List TypeId} (hp : plainB P ts = true) {held : Bool} {spare : Nat → Bool} {fuel : Nat} {t : TypeId} (ht : t ∈ ts) {cs : List Value} {x : DataW H × List MemPlace} (h : DataW.trod enc P w 0 spare held fuel t cs = some x) : cs.length = P.cellsOf t := by
  have hk := plain_at hp ht
  split at hk
  · rename_i hu
    obtain ⟨b, rfl, _⟩ := DataW.trod_bool hu h
    exact (by simpa using hk : P.cellsOf t = 1).symm
  · rename_i k hu
    obtain ⟨n, rfl, _, hw⟩ := DataW.trod_int hu h
    exact (by simpa using hk : P.cellsOf t = 1).symm
  · rename_i hu
    obtain ⟨s, rfl, _, hs⟩ := DataW.trod_string hu h
    exact (by simpa using hk : P.cellsOf t = 1).symm
  · rename_i e hu
    simp only [Bool.and_eq_true, beq_iff_eq] at hk
    rcases DataW.trod_slice hu h with ⟨rfl, _⟩ | ⟨a, len, cap, elems, rest, n, hn, rfl, _⟩ <;> exact hk.2.symm
  · rename_i fs hu
    obtain ⟨ys, n, hn, _, hcl, _⟩ := DataW.trod_struct hu h
    exact hcl
  · rename_i n e hu
    obtain ⟨ys, m, hm, _, hcl, _⟩ := DataW.trod_array hu h
    exact hcl
  · cases hk

theorem trod_typed {ts : List TypeId} (hp : plainB P ts = true) {held : Bool} {spare : Nat → Bool} : ∀ (fuel : Nat) (t : TypeId), t ∈ ts → ∀ (cs : List Value) (x : DataW H × List MemPlace), DataW.trod enc P w 0 spare held fuel t cs = some x →
    ∃ xs, Good1 P (wmem w) t cs xs
  | 0, t, ht, cs, x, h => by simp [DataW.trod] at h
  | fuel + 1, t, ht, cs, x, h => by
    have hk := plain_at hp ht
    split at hk
    · rename_i hu
      obtain ⟨b, rfl, _⟩ := DataW.trod_bool hu h
      exact ⟨[.lit (.bool b)], one_rep (.lit _ rfl), fun y hy => by rw [List.mem_singleton.1 hy]; rfl, .bool hu b⟩
    · rename_i k hu
      obtain ⟨n, rfl, _, hw⟩ := DataW.trod_int hu h
      exact ⟨[.lit (.int k n)], one_rep (.lit _ rfl), fun y hy => by rw [List.mem_singleton.1 hy]; rfl, .int hu n hw⟩
    · rename_i hu
      obtain ⟨s, rfl, _, hs⟩ := DataW.trod_string hu h
      exact ⟨[.lit (.string s)], one_rep (.lit _ rfl), fun y hy => by rw [List.mem_singleton.1 hy]; rfl, .string hu s hs⟩
    · rename_i e hu
      simp only [Bool.and_eq_true, List.contains_iff_mem] at hk
      obtain ⟨⟨he, hz⟩, _⟩ := hk
      have hz : 1 ≤ P.cellsOf e := Nat.le_of_ble_eq_true hz
      rcases DataW.trod_slice hu h with ⟨rfl, _⟩ | ⟨a, len, cap, elems, rest, n, hn, rfl, _, _, hlc, hcm, hel, hg, _, _⟩
      · refine ⟨[.sl (P.cellsOf e) []], one_rep ?_, fun y hy => by rw [List.mem_singleton.1 hy]; rfl, .slice hu [] (Nat.zero_le _) (fun r hr => by simp at hr)⟩
        exact RepV.sl (fun _ _ => undef) (fun e he => by simp at he) (fun e he => by simp at he) (Nat.le_refl _) (fun _ => ⟨rfl, rfl⟩) (fun ad h => by cases h) (fun ad i e j c h => by cases h) (fun i e j c h => by simp at h)
      · cases hn
        have row : ∀ i, i < len → ∃ us xs, w.cells? 0 (a.add (i * P.cellsOf e)) (P.cellsOf e) = some us ∧ Good1 P (wmem w) e us xs ∧ xs.length = P.cellsOf e := by
          intro i hi
          have := hg i hi
          rw [List.getElem?_eq_getElem (by omega), Option.bind_eq_some_iff] at this
          obtain ⟨us, h1, h2⟩ := this
          obtain ⟨xs, h3⟩ := trod_typed hp fuel e he us _ h2
          exact ⟨us, xs, h1, h3, by rw [h3.1.1, (cells_row h1).1]⟩
        have hus : ∃ us : Nat → List Value, ∃ xs : Nat → List V, ∀ i, i < len → w.cells? 0 (a.add (i * P.cellsOf e)) (P.cellsOf e) = some (us i) ∧ Good1 P (wmem w) e (us i) (xs i) ∧ (xs i).length = P.cellsOf e := by
          refine ⟨fun i => if h : i < len then (row i h).choose else [], fun i => if h : i < len then (row i h).choose_spec.choose else [], fun i hi => ?_⟩
          simp only [dif_pos hi]
          exact (row i hi).choose_spec.choose_spec
        obtain ⟨us, xs, hr⟩ := hus
        have hlen : ((List.range len).map xs).length = len := by simp
        have hget : ∀ {i : Nat} {r : List V}, ((List.range len).map xs)[i]? = some r → i < len ∧ r = xs i := by
          intro i r hi
          rw [List.getElem?_map] at hi
          by_cases h : i < len
          · rw [List.getElem?_range h] at hi
            exact ⟨h, by simpa using hi.symm⟩
          · rw [List.getElem?_eq_none (by simp; omega)] at hi
            cases hi
        have hmem : ∀ {r : List V}, r ∈ (List.range len).map xs → ∃ i, i < len ∧ r = xs i := by
          intro r hr'
          obtain ⟨i, hi, rfl⟩ := List.mem_map.1 hr'
          exact ⟨i, by simpa using hi, rfl⟩
        have cellAt : ∀ i j, i < len → j < P.cellsOf e → ∃ v, (us i)[j]? = some v ∧ w.cell? ⟨a.block, a.off + i * P.cellsOf e + j, none⟩ = some v ∧ (i = 0 → j = 0 → a.spot = none) := by
          intro i j hi hj
          obtain ⟨h1, _, _⟩ := hr i hi
          obtain ⟨k1, k2⟩ := cells_row h1
          have k3 := k2 j hj
          rw [List.getElem?_eq_getElem (by omega)] at k3
          refine ⟨(us i)[j], List.getElem?_eq_getElem (by omega), ?_, ?_⟩
          · have e1 : (a.add (i * P.cellsOf e)).add j = ⟨a.block, a.off + i * P.cellsOf e + j, ((a.add (i * P.cellsOf e)).add j).spot⟩ := by
              unfold Addr.add
              by_cases z1 : i * P.cellsOf e = 0
              · by_cases z2 : j = 0
                · simp [z1, z2]
                · simp [z1, z2]
              · by_cases z2 : j = 0
                · simp [z1, z2]
                · simp [z1, z2]
            rw [e1] at k3
            exact (cell_spot k3).2
          · rintro rfl rfl
            have e1 : (a.add (0 * P.cellsOf e)).add 0 = ⟨a.block, a.off, a.spot⟩ := by simp [Addr.add]
            rw [e1] at k3
            exact (cell_spot k3).1
        refine ⟨[.sl (P.cellsOf e) ((List.range len).map xs)], one_rep ?_, fun y hy => by rw [List.mem_singleton.1 hy]; rfl, .slice hu _ (by rw [hlen]; omega) (fun r hr' => ?_)⟩
        · have := RepV.sl (mu := wmem w) (z := P.cellsOf e) (es := (List.range len).map xs) (a := some a) (cap := cap) (fun i j => (us i).getD j undef) ?_ ?_ (by rw [hlen]; exact hlc) (fun h => by cases h) ?_ ?_ ?_
          · rw [hlen] at this; exact this
          · intro r hr'
            obtain ⟨i, hi, rfl⟩ := hmem hr'
            exact (hr i hi).2.2
          · intro r hr' c hc
            obtain ⟨i, hi, rfl⟩ := hmem hr'
            exact (hr i hi).2.1.2.1 c hc
          · intro ad had hne
            cases had
            have : 0 < len := by
              cases len with
              | zero => exact absurd rfl hne
              | succ n => omega
            obtain ⟨v, _, _, h⟩ := cellAt 0 0 this hz
            exact h rfl rfl
          · intro ad i r j c had hi hj
            cases had
            obtain ⟨hil, rfl⟩ := hget hi
            have hjl : j < P.cellsOf e := by
              have := (hr i hil).2.2
              have := (List.getElem?_eq_some_iff.1 hj).1
              omega
            obtain ⟨v, h1, h2, _⟩ := cellAt i j hil hjl
            show w.cell? _ = some ((us i).getD j undef)
            rw [h2, List.getD_eq_getElem?_getD, h1]; rfl
          · intro i r j c hi hj
            obtain ⟨hil, rfl⟩ := hget hi
            have hjl : j < P.cellsOf e := by
              have := (hr i hil).2.2
              have := (List.getElem?_eq_some_iff.1 hj).1
              omega
            obtain ⟨v, h1, _, _⟩ := cellAt i j hil hjl
            show RepV _ c ((us i).getD j undef)
            rw [List.getD_eq_getElem?_getD, h1]
            exact (hr i hil).2.1.1.2 j c v hj h1
        · obtain ⟨i, hi, rfl⟩ := hmem hr'
          exact (hr i hi).2.1.2.2
    · rename_i fs hu
      simp only [Bool.and_eq_true] at hk
      obtain ⟨hlay, hall⟩ := hk
      obtain ⟨ys, n, hn, _, hcl, hyl, hf⟩ := DataW.trod_struct hu h
      cases hn
      obtain ⟨zs, h1, h2, h3⟩ := glueF (mu := wmem w) fs.toList 0 cs (by rw [hcl]; exact hlay) fun f hf' => by
        obtain ⟨i, hi⟩ := List.mem_iff_getElem?.1 hf'
        have hi' : fs[i]? = some f := by rw [← hi, Array.getElem?_toList]
        have hft : f.type ∈ ts := by
          have := List.all_eq_true.1 hall f hf'
          simpa using this
        have hil : i < fs.size := (Array.getElem?_eq_some_iff.1 hi').1
        have := hf i f hi'
        rw [List.getElem?_eq_getElem (by omega)] at this
        obtain ⟨xs, hx⟩ := trod_typed hp fuel f.type hft _ _ this
        refine ⟨xs, hx, ?_⟩
        rw [hx.1.1]
        exact trod_len hp hft this
      rw [List.drop_zero] at h1
      refine ⟨zs, h1, h2, .struct hu zs (by rw [h1.1]; exact hcl) fun f hf' => ?_⟩
      have := (h3 f hf').2
      rwa [Nat.sub_zero] at this
    · rename_i n e hu
      simp only [Bool.and_eq_true, List.contains_iff_mem, beq_iff_eq] at hk
      obtain ⟨he, hsz⟩ := hk
      obtain ⟨ys, m, hm, _, hcl, hyl, hf⟩ := DataW.trod_array hu h
      cases hm
      obtain ⟨zs, h1, h2, h3⟩ := glueA (mu := wmem w) (e := e) n cs (by rw [hcl, hsz]) fun i hi => by
        have := hf i hi
        rw [List.getElem?_eq_getElem (by omega)] at this
        obtain ⟨xs, hx⟩ := trod_typed hp fuel e he _ _ this
        refine ⟨xs, hx, ?_⟩
        rw [hx.1.1]
        exact trod_len hp he this
      exact ⟨zs, h1, h2, .array hu zs (by rw [h1.1, hcl, hsz]) h3⟩
    · cases hk
end
end Go.Dv

namespace Go.Dv
open Go Go.ChangeShapes Go.WideShapes Go.ChangeAt Go.RowKit

/-- Data of a type as one value. -/
def TypedV (P : Program) (t : TypeId) (y : V) : Prop :=
  match P.underlying t with
  | some (.struct _) => ∃ cs, y = .agg cs ∧ Typed P t cs
  | some (.array _ _) => ∃ cs, y = .agg cs ∧ Typed P t cs
  | _ => Typed P t [y]

/-- Data of the types of a list. -/
def TypedAll (P : Program) : List TypeId → List V → Prop
  | [], [] => True
  | t :: ts, y :: ys => TypedV P t y ∧ TypedAll P ts ys
  | _, _ => False

section
variable {H : Type} {enc : TypeId × Value → H} {P : Program} {w : World}

theorem arg_typed {ts : List TypeId} (hp : plainB P ts = true) {held : Bool} {spare : Nat → Bool} {t : TypeId} (ht : t ∈ ts) {r : Reach} {base : Nat} {v : Value} (hv : Value.okWide P w r base t v) {d : DataW H} {ps : List MemPlace}
    (h : DataW.Trod enc P w 0 spare held t v d ps) : ∃ y, RepV (wmem w) y v ∧ TypedV P t y := by
  obtain ⟨fuel, h⟩ := h
  obtain ⟨xs, hr, hf, hty⟩ := trod_typed hp fuel t ht _ _ h
  have hk := plain_at hp ht
  have one : ∀ {u : Value}, v = u → u.cells.toList = [u] → (∀ fs, P.underlying t ≠ some (.struct fs)) → (∀ n e, P.underlying t ≠ some (.array n e)) → ∃ y, RepV (wmem w) y v ∧ TypedV P t y := by
    rintro u rfl hc n1 n2
    rw [hc] at hr
    obtain ⟨hl, hr⟩ := hr
    match xs, hl with
    | [y], _ =>
      refine ⟨y, hr 0 y v rfl rfl, ?_⟩
      unfold TypedV
      split
      · rename_i fs hu; exact absurd hu (n1 fs)
      · rename_i n e hu; exact absurd hu (n2 n e)
      · exact hty
  split at hk
  · rename_i hu
    obtain ⟨b, rfl⟩ := okWide_bool hu hv
    exact one rfl rfl (by simp [hu]) (by simp [hu])
  · rename_i k hu
    obtain ⟨n, rfl⟩ := okWide_int hu hv
    exact one rfl rfl (by simp [hu]) (by simp [hu])
  · rename_i hu
    obtain ⟨s, rfl⟩ := okWide_string hu hv
    exact one rfl rfl (by simp [hu]) (by simp [hu])
  · rename_i e hu
    obtain ⟨a, len, cap, rfl⟩ : ∃ a len cap, v = .slice a len cap := by
      simp only [Value.okWide, hu, Cell.okWide] at hv
      cases v <;> simp_all [Cell.ok]
    exact one rfl rfl (by simp [hu]) (by simp [hu])
  · rename_i fs hu
    simp only [Value.okWide, hu] at hv
    obtain ⟨cs, rfl, _, _⟩ := hv
    refine ⟨.agg xs, ?_, ?_⟩
    · have : RepV (wmem w) (.agg xs) (.agg cs.toList.toArray) := RepV.agg hf hr.1 fun i c u hi hu => hr.2 i c u hi hu
      rwa [Array.toArray_toList] at this
    · unfold TypedV; rw [hu]; exact ⟨xs, rfl, hty⟩
  · rename_i n e hu
    simp only [Value.okWide, hu] at hv
    obtain ⟨cs, rfl, _, _⟩ := hv
    refine ⟨.agg xs, ?_, ?_⟩
    · have : RepV (wmem w) (.agg xs) (.agg cs.toList.toArray) := RepV.agg hf hr.1 fun i c u hi hu => hr.2 i c u hi hu
      rwa [Array.toArray_toList] at this
    · unfold TypedV; rw [hu]; exact ⟨xs, rfl, hty⟩
  · cases hk

theorem args_typed {tt : List TypeId} (hp : plainB P tt = true) {held : Bool} {spare : Nat → Bool} {r : Reach} {base : Nat} : ∀ (ts : List TypeId), (∀ t ∈ ts, t ∈ tt) → ∀ (vs : List Value) (ds : List (DataW H)) (ps : List MemPlace),
    (∀ (j : Nat) t v, ts[j]? = some t → vs[j]? = some v → Value.okWide P w r base t v) → DataW.TrodAll enc P w 0 spare held ts vs ds ps →
    ∃ ys : List V, TypedAll P ts ys ∧ RepL (wmem w) ys vs
  | [], _, [], [], ps, _, _ => ⟨[], trivial, rfl, fun j y u hy => by simp at hy⟩
  | [], _, _ :: _, _, ps, _, h => by simp [DataW.TrodAll] at h
  | [], _, [], _ :: _, ps, _, h => by simp [DataW.TrodAll] at h
  | t :: ts, _, [], _, ps, _, h => by simp [DataW.TrodAll] at h
  | t :: ts, _, v :: vs, [], ps, _, h => by simp [DataW.TrodAll] at h
  | t :: ts, hm, v :: vs, d :: ds, ps, hv, h => by
    obtain ⟨p, q, h1, h2, _⟩ := h
    obtain ⟨y, hy, hty⟩ := arg_typed hp (hm t List.mem_cons_self) (hv 0 t v rfl rfl) h1
    obtain ⟨ys, k1, k2⟩ := args_typed hp ts (fun t ht => hm t (List.mem_cons_of_mem _ ht)) vs ds q (fun j t v ht hv' => hv (j + 1) t v ht hv') h2
    exact ⟨y :: ys, ⟨hty, k1⟩, (one_rep hy).app k2⟩

theorem args_stay (hl : laidOutB P = true) {W W' : World} (hb : Below W.heap.size W W') : ∀ (ts : List TypeId), (∀ t ∈ ts, P.readableRec t = true ∧ t < P.types.size) → ∀ (vs : List Value) (ds : List (DataW H)) (ps : List MemPlace),
    DataW.TrodAll enc P W 0 (fun _ => true) true ts vs ds ps → (∀ p ∈ ps, p.block < W.heap.size) → DataW.TrodAll enc P W' 0 (fun b => decide (b < W.heap.size)) true ts vs ds ps
  | [], _, [], [], ps, h, _ => h
  | [], _, _ :: _, _, ps, h, _ => by simp [DataW.TrodAll] at h
  | [], _, [], _ :: _, ps, h, _ => by simp [DataW.TrodAll] at h
  | t :: ts, _, [], _, ps, h, _ => by simp [DataW.TrodAll] at h
  | t :: ts, _, v :: vs, [], ps, h, _ => by simp [DataW.TrodAll] at h
  | t :: ts, hm, v :: vs, d :: ds, ps, h, hlt => by
    obtain ⟨p, q, h1, h2, rfl⟩ := h
    obtain ⟨m1, m2⟩ := hm t List.mem_cons_self
    exact ⟨p, q, Below.trod hl m1 m2 h1 hb (fun x hx => hlt x (List.mem_append_left _ hx)),
      args_stay hl hb ts (fun t ht => hm t (List.mem_cons_of_mem _ ht)) vs ds q h2 (fun x hx => hlt x (List.mem_append_right _ hx)), rfl⟩

theorem TrodAll_len : ∀ {ts : List TypeId} {vs : List Value} {ds : List (DataW H)} {ps : List MemPlace} {base : Nat} {spare : Nat → Bool} {held : Bool}, DataW.TrodAll enc P w base spare held ts vs ds ps → vs.length = ts.length ∧ ds.length = ts.length
  | [], [], [], _, _, _, _, _ => ⟨rfl, rfl⟩
  | [], _ :: _, _, _, _, _, _, h => by simp [DataW.TrodAll] at h
  | [], [], _ :: _, _, _, _, _, h => by simp [DataW.TrodAll] at h
  | t :: ts, [], _, _, _, _, _, h => by simp [DataW.TrodAll] at h
  | t :: ts, v :: vs, [], _, _, _, _, h => by simp [DataW.TrodAll] at h
  | t :: ts, v :: vs, d :: ds, ps, _, _, _, h => by
    obtain ⟨p, q, h1, h2, _⟩ := h
    have := TrodAll_len h2
    simp [this.1, this.2]

/-- A law over the evaluator, as a law over the model. -/
theorem law_calls {L : Lite} {ext : Ext} (ok : LiteOk P L) (eok : ExtOk P L ext) (hl : laidOutB P = true) {f : FuncId} {fn : Func} (hL : L.fn.getD f .none = some fn) {tt : List TypeId} (hp : plainB P tt = true)
    (hpar : fn.params.toList.all (fun t => tt.contains t && (P.readableRec t && decide (t < P.types.size))) = true) {bt : TypeId} (hres : fn.resultTypes = #[bt]) (hbt : P.underlying bt = some .bool)
    (hlaw : ∀ ys : List V, TypedAll P fn.params.toList ys → FnEv L ext f (ys.map X.v) [] (.ret [.lit (.bool true)], []))
    {s : ChangeSpec} (hs : ∀ ds : List (DataW H), ds.length = fn.params.toList.length → s.fn H ds = { results := [.lit (.bool true)], args := ds }) (hv : s.vars = [])
    {apart fresh handsOn : Bool} {W : World} {base : Nat} {args : Array Value} {ds gs : List (DataW H)} {before : List MemPlace}
    (hval : ∀ (j : Nat) t v, fn.params[j]? = some t → args[j]? = some v → Value.okWide P W .any base t v)
    (hW : DataW.Whole enc P fn.params.toList s.vars apart W args.toList ds gs before)
    (hgm : ∀ b o v, L.gm b o = some v → wmem W b o = some v := by exact fun b o v h => nomatch h) :
    Calls P f args W fun e W' => ∃ v, e = .returned v ∧ s.post enc P fn apart fresh handsOn false W args v W' := by
  have hW0 := hW
  obtain ⟨p, q, hA, hV, hbe, hfz, hnd⟩ := hW
  rw [hv] at hV
  obtain ⟨hgs, hq⟩ : gs = [] ∧ q = [] := by
    cases gs with
    | nil => exact ⟨rfl, hV⟩
    | cons g gs => simp [DataW.TrodVars] at hV
  subst hgs hq
  rw [List.append_nil] at hbe
  subst hbe
  have hpar' : ∀ t ∈ fn.params.toList, t ∈ tt ∧ P.readableRec t = true ∧ t < P.types.size := fun t ht => by
    have := List.all_eq_true.1 hpar t ht
    simpa using this
  obtain ⟨ys, hty, hrep⟩ := args_typed hp fn.params.toList (fun t ht => (hpar' t ht).1) args.toList ds before (fun j t v ht hv' => hval j t v (by rw [← ht, Array.getElem?_toList]) (by rw [← hv', Array.getElem?_toList])) hA
  obtain ⟨K, hK⟩ := hlaw ys hty
  have hcall := sound_evalF ok eok K f fn (ys.map X.v) [] (.ret [.lit (.bool true)]) [] hL (hK K (Nat.le_refl _)) W (wmem W) (fun _ _ => none) [] args.toList
    ⟨fun b o v h => h, (fun b o v h => nomatch h), rfl, List.nodup_nil, (fun j b c h => by simp at h), (fun b h => by simp at h), hgm⟩ (by rw [List.length_map]; exact hrep.1) fun j x u hx hu => by
      rw [List.getElem?_map, Option.map_eq_some_iff] at hx
      obtain ⟨y, hy, rfl⟩ := hx
      exact RepX.v (hrep.2 j y u hy hu)
  rw [Array.toArray_toList] at hcall
  refine hcall.mono fun e W' ⟨mu', hleft, hend⟩ => ?_
  obtain ⟨us, hus, rfl⟩ := hend
  have hu1 : us = [.bool true] := by
    obtain ⟨h1, h2⟩ := hus
    match us, h1 with
    | [u], _ =>
      have := h2 0 _ u rfl rfl
      cases this
      rfl
  subst hu1
  have hb : Below W.heap.size W W' := ⟨hleft.base.os, hleft.base.tape, hleft.base.output, hleft.base.size, fun k hk => hleft.base.block k hk (by simp)⟩
  have hlen := (TrodAll_len hA).2
  have hlt := hW0.lt
  refine ⟨_, rfl, ds, [], before, [], before, [], hW0, ?_, ?_, ?_, World.keptBut_mono (fun p hp => hp.elim) (hb.frame fun _ => False), fun h => by cases h⟩
  · rw [List.append_nil, hs ds hlen, hres]
    show DataW.TrodAll enc P W' _ _ _ [bt] [.bool true] [.lit (.bool true)] []
    exact ⟨[], [], ⟨1, by simp [DataW.trod, hbt, Value.cells]⟩, rfl, rfl⟩
  · rw [List.append_nil, hs ds hlen]
    exact args_stay hl hb _ (fun t ht => (hpar' t ht).2) _ _ _ hA hlt
  · rw [List.append_nil, hs ds hlen, hv]
    rfl
end
end Go.Dv

namespace Go.Dv
open Go

/-- The same, its head looked at. -/
def headX (x : X) : X :=
  match x with
  | .undef => .undef
  | .v y => .v y
  | .nil z => .nil z
  | .lent z es => .lent z es
  | .ro cs => .ro cs
  | .addr a b c => .addr a b c
  | .elt a b c d => .elt a b c d
  | .own a b c d => .own a b c d
  | .bsl a b c => .bsl a b c
  | .mapr a b => .mapr a b
  | .clo f cs => .clo f cs
  | .tup xs => .tup xs
theorem headX_eq (x : X) : headX x = x := by cases x <;> rfl
def headO (x : Ob) : Ob :=
  match x with
  | .none g => .none g
  | .box g cs => .box g cs
  | .row g m z es => .row g m z es
  | .mp g es => .mp g es
theorem headO_eq (x : Ob) : headO x = x := by cases x <;> rfl

def layList {α : Type} (hd : α → α) (f : Nat → α) : Nat → Nat → List α
  | _, 0 => []
  | i, n + 1 => hd (f i) :: layList hd f (i + 1) n
def layGet {α : Type} (d : α) : List α → Nat → α
  | [], _ => d
  | x :: _, 0 => x
  | _ :: r, i + 1 => layGet d r i
theorem lay_get {α : Type} {hd : α → α} (hh : ∀ x, hd x = x) {f : Nat → α} {d : α} : ∀ {n i j : Nat}, i < n → layGet d (layList hd f j n) i = f (j + i)
  | 0, i, j, h => absurd h (Nat.not_lt_zero _)
  | n + 1, 0, j, _ => hh _
  | n + 1, i + 1, j, h => by
    show layGet d (layList hd f (j + 1) n) i = _
    rw [lay_get hh (by omega)]
    congr 1
    omega

/-- The same state, its slots and objects in a list. -/
def layFn {α : Type} (hd : α → α) (d : α) (f : Nat → α) (n : Nat) : Nat → α :=
  let l := layList hd f 0 n
  fun i => if Nat.blt i n then layGet d l i else f i
theorem layFn_eq {α : Type} {hd : α → α} (hh : ∀ x, hd x = x) (d : α) (f : Nat → α) (n : Nat) : layFn hd d f n = f := by
  funext i
  unfold layFn
  show (if Nat.blt i n then layGet d (layList hd f 0 n) i else f i) = f i
  split
  · rename_i h
    rw [lay_get hh (show i < n from Nat.le_of_ble_eq_true h), Nat.zero_add]
  · rfl
def laySt (n : Nat) (ρ : St) : St := if Nat.beq ρ.n n then ⟨n, layFn headX .undef ρ.sl n, layFn headO (.none 0) ρ.ob (n + 8)⟩ else ρ
theorem laySt_eq (n : Nat) (ρ : St) : laySt n ρ = ρ := by
  unfold laySt
  split
  · rename_i h
    rw [layFn_eq headX_eq, layFn_eq headO_eq, ← Nat.eq_of_beq_eq_true h]
  · rfl

def evalCodeN (m : Nat) (L : Lite) (call : Call1) (n : Nat) : Code → St → Option (Ex × St)
  | .skip, ρ => some (.normal, ρ)
  | .label _, ρ => some (.normal, ρ)
  | .region _ ops draw, ρ => match evalRegion L call ops draw (laySt m ρ) with
    | some (.none, ρ') => some (.normal, ρ')
    | some (some v, ρ') => some (.pan v, ρ')
    | .none => .none
  | .seq a b, ρ => match evalCodeN m L call n a ρ with
    | some (.normal, ρ') => evalCodeN m L call n b ρ'
    | r => r
  | .cond c x y, ρ => match ρ.opd c with
    | .v (.lit (.bool p)) => if p then evalCodeN m L call n x ρ else evalCodeN m L call n y ρ
    | _ => .none
  | .block id c, ρ => match evalCodeN m L call n c ρ with
    | some (.exit i, ρ') => if i = id then some (.normal, ρ') else some (.exit i, ρ')
    | r => r
  | .loop c, ρ => loopN (evalCodeN m L call n c) n ρ
  | .exit id, ρ => some (.exit id, ρ)
  | .scope c, ρ => evalCodeN m L call n c ρ
  | .ret, ρ => some (.ret, ρ)
  | _, _ => .none

theorem evalCodeN_eq (m : Nat) (L : Lite) (call : Call1) (n : Nat) : ∀ c : Code, evalCodeN m L call n c = evalCode L call n c
  | .skip => by funext ρ; rfl
  | .label _ => by funext ρ; rfl
  | .region _ ops draw => by funext ρ; simp only [evalCodeN, evalCode, laySt_eq]; rfl
  | .seq a b => by funext ρ; simp only [evalCodeN, evalCode, evalCodeN_eq m L call n a, evalCodeN_eq m L call n b]; rfl
  | .cond c x y => by funext ρ; simp only [evalCodeN, evalCode, evalCodeN_eq m L call n x, evalCodeN_eq m L call n y]; rfl
  | .block id c => by funext ρ; simp only [evalCodeN, evalCode, evalCodeN_eq m L call n c]; rfl
  | .loop c => by funext ρ; simp only [evalCodeN, evalCode, evalCodeN_eq m L call n c]
  | .exit id => by funext ρ; rfl
  | .scope c => by funext ρ; simp only [evalCodeN, evalCode, evalCodeN_eq m L call n c]
  | .ret => by funext ρ; rfl
  | .goto _ => by funext ρ; rfl
  | .rangeFunc .. => by funext ρ; rfl
  | .refuse _ => by funext ρ; rfl

def runFnN (L : Lite) (call : Call1) (n : Nat) (fn : Func) (xs : List X) (cs : List (List V)) : Option (Res × List (List V)) :=
  match fn.body with
  | .none => .none
  | some c =>
    if xs.length ≤ fn.ntmps then
      match evalCodeN fn.ntmps L call n c (enterSt fn xs cs) with
      | some (.pan v, ρ) => match outs ρ.ob fn.ntmps cs.length with
        | some r => some (.pan v, r)
        | .none => .none
      | some (.exit _, _) => .none
      | some (_, ρ) => match (resEf L ρ.sl fn.results.toList .ret).run ρ.ob with
        | some (vs, H, _, _) => match outs H fn.ntmps cs.length with
          | some r => some (.ret vs, r)
          | .none => .none
        | .none => .none
      | .none => .none
    else .none
theorem runFnN_eq (L : Lite) (call : Call1) (n : Nat) (fn : Func) (xs : List X) (cs : List (List V)) : runFnN L call n fn xs cs = runFn L call n fn xs cs := by
  unfold runFnN runFn
  simp only [evalCodeN_eq]
  rfl

def evalFN (L : Lite) (ext : Ext) : Nat → Call1
  | 0, _, _, _ => .none
  | k + 1, f, xs, cs => match ext f with
    | some e => e (evalFN L ext k) (k + 1) xs cs
    | .none => match L.fn.getD f .none with
      | some fn => runFnN L (evalFN L ext k) (k + 1) fn xs cs
      | .none => .none
theorem evalFN_eq (L : Lite) (ext : Ext) : ∀ k, evalFN L ext k = evalF L ext k
  | 0 => by funext f xs cs; rfl
  | k + 1 => by
    funext f xs cs
    simp only [evalFN, evalF, evalFN_eq L ext k, runFnN_eq]
    rfl

end Go.Dv

namespace Go.Dv
open Go

/-- The second answers all that the first answers. -/
def CallLe (c c' : Call1) : Prop := ∀ f xs cs r, c f xs cs = some r → c' f xs cs = some r
def EfLe {α : Type} (a b : Ef α) : Prop := ∀ H y, a.run H = some y → b.run H = some y

theorem EfLe.refl {α : Type} (a : Ef α) : EfLe a a := fun _ _ h => h
theorem EfLe.get {α : Type} {s : Nat} {k k' : Ob → Ef α} (h : ∀ o, EfLe (k o) (k' o)) : EfLe (.get s k) (.get s k') := by
  intro H y hy
  simp only [Ef.run] at hy ⊢
  split at hy
  · rename_i a H' r w he
    rw [h _ _ _ he]
    exact hy
  · cases hy
theorem EfLe.put {α : Type} {s : Nat} {o : Ob} {k k' : Ef α} (h : EfLe k k') : EfLe (.put s o k) (.put s o k') := by
  intro H y hy
  simp only [Ef.run] at hy ⊢
  split at hy
  · rename_i a H' r w he
    rw [h _ _ he]
    exact hy
  · cases hy
theorem EfLe.fail {α : Type} (b : Ef α) : EfLe .fail b := by
  intro H y hy
  simp [Ef.run] at hy
theorem EfLe.ov {α β : Type} {x : Option α} {k k' : α → Ef β} (h : ∀ a, EfLe (k a) (k' a)) : EfLe (ov x k) (ov x k') := by
  cases x with
  | none => exact .refl _
  | some a => exact h a

theorem frz_le {α : Type} {x : X} {k k' : V → Ef α} (h : ∀ v, EfLe (k v) (k' v)) : EfLe (frz x k) (frz x k') := by
  cases x <;> simp only [frz] <;> first | exact .refl _ | exact h _ | skip
  refine .get fun o => ?_
  cases o <;> simp only <;> first | exact .refl _ | skip
  split
  · split
    · exact .put (h _)
    · exact h _
  · exact .refl _

theorem frzOwn_le {α : Type} : ∀ (xs : List X) {k k' : List X → Ef α}, (∀ ys, EfLe (k ys) (k' ys)) → EfLe (frzOwn xs k) (frzOwn xs k')
  | [], k, k', h => h []
  | x :: r, k, k', h => by
    cases x <;> simp only [frzOwn] <;> first
      | exact frzOwn_le r fun ys => h _
      | exact frz_le fun v => frzOwn_le r fun ys => h _

theorem hand_le {α : Type} (n : Nat) : ∀ (xs : List X) (ss : List Nat) (cs : List (List V)) {k k' : List X → List Nat → List (List V) → Ef α}, (∀ a b c, EfLe (k a b c) (k' a b c)) → EfLe (hand n xs ss cs k) (hand n xs ss cs k')
  | [], ss, cs, k, k', h => h [] ss cs
  | x :: r, ss, cs, k, k', h => by
    have ih := fun ss cs (g g' : List X → List Nat → List (List V) → Ef α) hg => hand_le n r ss cs (k := g) (k' := g') hg
    unfold hand
    split
    · exact ih _ _ _ _ fun a b c => h _ _ _
    · exact ih _ _ _ _ fun a b c => h _ _ _
    · exact ih _ _ _ _ fun a b c => h _ _ _
    · exact ih _ _ _ _ fun a b c => h _ _ _
    · refine .get fun o => ?_
      split
      · split
        · exact ih _ _ _ _ fun a b c => h _ _ _
        · exact .refl _
      · split
        · exact ih _ _ _ _ fun a b c => h _ _ _
        · exact .refl _
      · exact .refl _
    · refine .get fun o => ?_
      split
      · split
        · exact .ov fun ys => ih _ _ _ _ fun a b c => h _ _ _
        · exact .refl _
      · exact .refl _
    · exact .refl _

variable {L : Lite}

theorem callF_le {c c' : Call1} (hc : CallLe c c') (f : FuncId) (xs : List X) : EfLe (callF L c f xs) (callF L c' f xs) := by
  unfold callF
  split
  · exact .refl _
  · rename_i fn hfn
    have key : ∀ ys, EfLe (hand fn.ntmps ys [] [] fun args ss cs => (match c f args cs with
        | .none => Ef.fail
        | some (.ret vs, cs') => putAll ss cs' (Ef.ret (Outc.val (resX vs)))
        | some (.pan v, cs') => putAll ss cs' (Ef.ret (Outc.pan v)))) (hand fn.ntmps ys [] [] fun args ss cs => (match c' f args cs with
        | .none => Ef.fail
        | some (.ret vs, cs') => putAll ss cs' (Ef.ret (Outc.val (resX vs)))
        | some (.pan v, cs') => putAll ss cs' (Ef.ret (Outc.pan v)))) := fun ys => hand_le _ _ _ _ fun a b d => by
      cases e : c f a d with
      | none => exact .fail _
      | some r => rw [hc _ _ _ _ e]; exact .refl _
    split
    · exact frzOwn_le _ key
    · exact key _

theorem act_le {c c' : Call1} (hc : CallLe c c') (d : Option Nat) (o : Oper) (r : Operand → X) : EfLe (act L c d o r) (act L c' d o r) := by
  unfold act
  split <;> first | exact .refl _ | skip
  split
  · split
    · exact .refl _
    · split
      · exact .refl _
      · split
        · exact .refl _
        · exact callF_le hc _ _
  · exact .refl _

theorem dop_le {c c' : Call1} (hc : CallLe c c') {ops : Array Oper} {o : Oper} {ρ : St} {y : Option V × St × List Nat × List Nat} (h : dop L c ops o ρ = some y) : dop L c' ops o ρ = some y := by
  unfold dop at h ⊢
  split at h
  · rename_i hg
    split at h
    · rename_i x H rd wr he
      rw [act_le hc _ _ _ _ _ he]; exact h
    · rename_i v H rd wr he
      rw [act_le hc _ _ _ _ _ he]; exact h
    · cases h
  · exact h
  · cases h

theorem evalOps_le {c c' : Call1} (hc : CallLe c c') {ops : Array Oper} : ∀ {l : List Oper} {ρ : St} {y : Option V × St}, evalOps L c ops l ρ = some y → evalOps L c' ops l ρ = some y
  | [], ρ, y, h => h
  | o :: l, ρ, y, h => by
    unfold evalOps at h ⊢
    split at h
    · rename_i ρ' rd wr he
      rw [dop_le hc he]; exact evalOps_le hc h
    · rename_i v ρ' rd wr he
      rw [dop_le hc he]; exact h
    · cases h

theorem runOps_le {c c' : Call1} (hc : CallLe c c') {ops : Array Oper} : ∀ {l : List Oper} {ρ : St} {y : St × List (List Nat × List Nat)}, runOps L c ops l ρ = some y → runOps L c' ops l ρ = some y
  | [], ρ, y, h => h
  | o :: l, ρ, y, h => by
    unfold runOps at h ⊢
    split at h
    · rename_i ρ' rd wr he
      rw [dop_le hc he]
      simp only
      split at h
      · rename_i ρ2 fps h2
        rw [runOps_le hc h2]; exact h
      · cases h
    · cases h

theorem runPan_le {c c' : Call1} (hc : CallLe c c') {ops : Array Oper} : ∀ {l : List Oper} {ρ : St} {y : V × St × List (List Nat × List Nat)}, runPan L c ops l ρ = some y → runPan L c' ops l ρ = some y
  | [], ρ, y, h => h
  | o :: l, ρ, y, h => by
    unfold runPan at h ⊢
    split at h
    · rename_i ρ' rd wr he
      rw [dop_le hc he]
      simp only
      split at h
      · rename_i v ρ2 fps h2
        rw [runPan_le hc h2]; exact h
      · cases h
    · rename_i v ρ' rd wr he
      rw [dop_le hc he]; exact h
    · cases h

theorem runPan_none {c : Call1} {ops : Array Oper} : ∀ {l : List Oper} {ρ : St} {y : V × St × List (List Nat × List Nat)}, runPan L c ops l ρ = some y → runOps L c ops l ρ = none
  | [], ρ, y, h => by simp [runPan] at h
  | o :: l, ρ, y, h => by
    unfold runPan at h
    unfold runOps
    split at h
    · rename_i ρ' rd wr he
      rw [he]
      simp only
      split at h
      · rename_i v ρ2 fps h2
        rw [runPan_none h2]
      · cases h
    · rename_i v ρ' rd wr he
      rw [he]
    · cases h

theorem evalRegion_le {c c' : Call1} (hc : CallLe c c') {ops : Array Oper} {draw : Bool} {ρ : St} {y : Option V × St} (h : evalRegion L c ops draw ρ = some y) : evalRegion L c' ops draw ρ = some y := by
  unfold evalRegion at h ⊢
  cases draw with
  | true =>
    simp only [if_true] at h ⊢
    split at h
    · rename_i hs
      rw [if_pos hs]
      split at h
      · rename_i ρ' fps he
        rw [runOps_le hc he]; exact h
      · split at h
        · rename_i v ρ' fps he
          have h2 := runPan_le hc he
          rw [runPan_none h2]
          simp only [h2]
          exact h
        · cases h
    · cases h
  | false =>
    simp only [Bool.false_eq_true, if_false] at h ⊢
    exact evalOps_le hc h

theorem loopN_le {f f' : St → Option (Ex × St)} (hf : ∀ ρ y, f ρ = some y → f' ρ = some y) : ∀ {n n' : Nat}, n ≤ n' → ∀ {ρ : St} {y : Ex × St}, loopN f n ρ = some y → loopN f' n' ρ = some y
  | 0, n', hn, ρ, y, h => by simp [loopN] at h
  | n + 1, 0, hn, ρ, y, h => by omega
  | n + 1, n' + 1, hn, ρ, y, h => by
    unfold loopN at h ⊢
    split at h
    · rename_i ρ' he
      rw [hf _ _ he]; exact loopN_le hf (by omega) h
    · rename_i hne
      rw [hf _ _ h]
      split
      · rename_i ρ2 he
        cases he
        exact absurd h (hne _)
      · rfl

theorem evalCode_le {c c' : Call1} (hc : CallLe c c') {n n' : Nat} (hn : n ≤ n') : ∀ (cd : Code) {ρ : St} {y : Ex × St}, evalCode L c n cd ρ = some y → evalCode L c' n' cd ρ = some y
  | .skip, ρ, y, h => h
  | .label _, ρ, y, h => h
  | .region _ ops draw, ρ, y, h => by
    simp only [evalCode] at h ⊢
    split at h
    · rename_i ρ' he
      rw [evalRegion_le hc he]; exact h
    · rename_i v ρ' he
      rw [evalRegion_le hc he]; exact h
    · cases h
  | .seq a b, ρ, y, h => by
    simp only [evalCode] at h ⊢
    split at h
    · rename_i ρ' he
      rw [evalCode_le hc hn a he]; exact evalCode_le hc hn b h
    · rename_i hne
      rw [evalCode_le hc hn a h]
      split
      · rename_i ρ2 he
        cases he
        exact absurd h (hne _)
      · rfl
  | .cond x a b, ρ, y, h => by
    simp only [evalCode] at h ⊢
    split at h
    · split at h
      · rename_i hp; simp only [hp, if_true]; exact evalCode_le hc hn a h
      · rename_i hp; simp only [hp, Bool.false_eq_true, if_false]; exact evalCode_le hc hn b h
    · cases h
  | .block id a, ρ, y, h => by
    simp only [evalCode] at h ⊢
    split at h
    · rename_i i ρ' he
      rw [evalCode_le hc hn a he]; exact h
    · rename_i hne
      rw [evalCode_le hc hn a h]
      split
      · rename_i i ρ2 he
        cases he
        exact absurd h (hne _ _)
      · rfl
  | .loop a, ρ, y, h => by
    simp only [evalCode] at h ⊢
    exact loopN_le (fun ρ y h => evalCode_le hc hn a h) hn h
  | .exit id, ρ, y, h => h
  | .scope a, ρ, y, h => by
    simp only [evalCode] at h ⊢
    exact evalCode_le hc hn a h
  | .ret, ρ, y, h => h
  | .goto _, ρ, y, h => by simp [evalCode] at h
  | .rangeFunc .., ρ, y, h => by simp [evalCode] at h
  | .refuse _, ρ, y, h => by simp [evalCode] at h

theorem runFn_le {c c' : Call1} (hc : CallLe c c') {n n' : Nat} (hn : n ≤ n') {fn : Func} {xs : List X} {cs : List (List V)} {y : Res × List (List V)} (h : runFn L c n fn xs cs = some y) : runFn L c' n' fn xs cs = some y := by
  unfold runFn at h ⊢
  split at h
  · cases h
  · rename_i cd hb
    split at h
    · rename_i hle
      simp only [if_pos hle]
      split at h
      · rename_i v ρ he
        rw [evalCode_le hc hn cd he]; exact h
      · cases h
      · rename_i e ρ h1 h2 he
        rw [evalCode_le hc hn cd he]
        cases e with
        | pan v => exact (h1 v rfl).elim
        | exit i => exact (h2 i rfl).elim
        | normal => exact h
        | ret => exact h
      · cases h
    · cases h

/-- What is asked of the functions that are told by contracts of their own. -/
def ExtLe (ext : Ext) : Prop := ∀ f e, ext f = some e → ∀ c c' n n', CallLe c c' → n ≤ n' → ∀ xs cs r, e c n xs cs = some r → e c' n' xs cs = some r

theorem evalF_succ {ext : Ext} (hx : ExtLe ext) : ∀ k, CallLe (evalF L ext k) (evalF L ext (k + 1))
  | 0 => fun f xs cs r h => by simp [evalF] at h
  | k + 1 => fun f xs cs r h => by
    unfold evalF at h ⊢
    split at h
    · rename_i e he
      exact hx f e he _ _ _ _ (evalF_succ hx k) (by omega) xs cs r h
    · split at h
      · exact runFn_le (evalF_succ hx k) (by omega) h
      · cases h
theorem evalF_le {ext : Ext} (hx : ExtLe ext) {k : Nat} : ∀ {k' : Nat}, k ≤ k' → CallLe (evalF L ext k) (evalF L ext k')
  | 0, h => by
    have : k = 0 := by omega
    subst this; exact fun _ _ _ _ h => h
  | k' + 1, h => by
    by_cases e : k = k' + 1
    · subst e; exact fun _ _ _ _ h => h
    · exact fun f xs cs r hr => evalF_succ hx k' f xs cs r (evalF_le hx (k' := k') (by omega) f xs cs r hr)

/-- One answer, worked out. -/
theorem FnEv.work {ext : Ext} (hx : ExtLe ext) (k : Nat) {f : FuncId} {xs : List X} {cs : List (List V)} {r : Res × List (List V)} (h : evalFN L ext k f xs cs = some r) : FnEv L ext f xs cs r := by
  rw [evalFN_eq] at h
  exact ⟨k, fun k' hk => evalF_le hx hk f xs cs r h⟩

end Go.Dv

namespace Go.Dv
open Go

/-- The code of a closure that begins with 'x := recover()': the slots that hold x; what follows. -/
def recShape (gn : Func) : Option (Nat × Tmp × Tmp × Array Oper × Code) :=
  match gn.body with
  | some (.seq (.region id ops false) D) =>
    match ops.toList with
    | [{ dst := some t, op := .call { callee := .builtin .recover, args := as1, argTypes := _ }, type := _, pos := _, after := _, guard := .none }, { dst := some t', op := .assign (.tmp t2), type := _, pos := _, after := _, guard := .none }] =>
      if t2 = t ∧ as1.isEmpty ∧ gn.results.isEmpty then some (id, t, t', ops, D) else .none
    | _ => .none
  | _ => .none

/-- Such a closure, run where v is what is recovered. -/
def callRec (L : Lite) (call : Call1) (n : Nat) (v : Value) : Call1 := fun g xs cs =>
  match L.fn.getD g .none with
  | .none => .none
  | some gn => match recShape gn with
    | some (_, t, t', _, D) =>
      if xs.length ≤ gn.ntmps ∧ t < gn.ntmps then
        match evalCode L call n D (((enterSt gn xs cs).put (some t) (.v (.lit v))).put (some t') (.v (.lit v))) with
        | some (.normal, ρ) => (outs ρ.ob gn.ntmps cs.length).map fun r => (.ret [], r)
        | some (.ret, ρ) => (outs ρ.ob gn.ntmps cs.length).map fun r => (.ret [], r)
        | _ => .none
      else .none
    | .none => .none

/-- The code of a function that begins so: what goes ahead; the closure's slot; the closure; what follows. -/
def deferShape (fn : Func) : Option (Code × Nat × Array Oper × Tmp × FuncId × Array Operand × Code) :=
  match fn.body with
  | some (.seq A (.seq (.region id ops false) C)) =>
    match ops.toList with
    | [{ dst := some t, op := .makeFunc (.func g) first caps, type := _, pos := _, after := _, guard := .none }, { dst := .none, op := .defer { callee := .value (.tmp t2), args := as2, argTypes := _ }, type := _, pos := _, after := _, guard := .none }] =>
      if t2 = t ∧ as2.isEmpty ∧ first.isEmpty ∧ t < fn.ntmps then some (A, id, ops, t, g, caps, C) else .none
    | _ => .none
  | _ => .none

/-- What is recovered where a function is left so. -/
def exV : Ex → Option Value
  | .pan (.lit x) => if scal x then some x else .none
  | .pan _ => .none
  | .exit _ => .none
  | .normal => some .nilIface
  | .ret => some .nilIface

def runDefer (L : Lite) (fn : Func) : Runner := fun call n xs cs =>
  match deferShape fn with
  | .none => .none
  | some (A, _, _, t, g, caps, C) =>
    if xs.length ≤ fn.ntmps then
      match evalCode L call n A (enterSt fn xs cs) with
      | some (.normal, ρ1) =>
        match evalCode L call n C (ρ1.put (some t) (.clo g (caps.toList.map ρ1.opd))) with
        | some (e, ρ3) => match exV e with
          | some v => match (callF L (callRec L call n v) g (caps.toList.map ρ1.opd)).run ρ3.ob with
            | some (.val _, H, _, _) => match (resEf L ρ3.sl fn.results.toList .ret).run H with
              | some (vs, H2, _, _) => (outs H2 fn.ntmps cs.length).map fun r => (.ret vs, r)
              | .none => .none
            | _ => .none
          | .none => .none
        | .none => .none
      | _ => .none
    else .none

/-- The two modes in which a deferred closure is run here, and what it recovers. -/
inductive ModeOf : FrameMode → Value → FrameMode → Prop
  | back : ModeOf .returning .nilIface .returning
  | pan (x : Value) : ModeOf (.panicking [{ v := x, recovered := false }]) x (.panicking [{ v := x, recovered := true }])

section
variable {P : Program} {L : Lite} {call : Call1}

theorem recShape_spec {gn : Func} {id : Nat} {t t' : Tmp} {ops : Array Oper} {D : Code} (h : recShape gn = some (id, t, t', ops, D)) :
    gn.body = some (.seq (.region id ops false) D) ∧ gn.results = #[] ∧ ∃ ts ty1 p1 a1 ty2 p2 a2, ops = #[{ dst := some t, op := .call { callee := .builtin .recover, args := #[], argTypes := ts }, type := ty1, pos := p1, after := a1, guard := .none },
      { dst := some t', op := .assign (.tmp t), type := ty2, pos := p2, after := a2, guard := .none }] := by
  unfold recShape at h
  split at h
  · rename_i id' ops' D' hb
    split at h
    · rename_i t1 as1 ts ty1 p1 a1 t1' t2 ty2 p2 a2 hl
      split at h
      · rename_i hc
        simp only [Option.some.injEq, Prod.mk.injEq] at h
        obtain ⟨rfl, rfl, rfl, rfl, rfl⟩ := h
        obtain ⟨rfl, h2, h3⟩ := hc
        have h2' : as1 = #[] := by simpa using h2
        subst h2'
        refine ⟨hb, by simpa using h3, ts, ty1, p1, a1, ty2, p2, a2, ?_⟩
        apply Array.ext'
        exact hl
      · cases h
    · cases h
  · cases h

theorem rec_ok (ok : LiteOk P L) (cok : CallOk P L call) {n : Nat} {x : Value} (hx : scal x = true) {u u2 : FrameMode} (hu : ModeOf u x u2) :
    CallOkR (fun f xs w Q => CallsD P f xs u w fun e u' w' => u' = u2 ∧ Q e w') L (callRec L call n x) := by
  intro f fn args cs res cs' hf hc w mu lam bs us he hl hargs
  unfold callRec at hc
  rw [hf] at hc
  simp only at hc
  split at hc
  · rename_i id t t' ops D hs
    split at hc
    · rename_i hcond
      obtain ⟨hb, hres, ts, ty1, p1, a1, ty2, p2, a2, rfl⟩ := recShape_spec hs
      obtain ⟨hpf, _, _⟩ := ok.fn f fn hf
      have h0 := enter_inv (fn := fn) he hl hcond.1 hargs
      have h1 := h0.put (some t) (x := .v (.lit x)) (u := x) (rep_lit hx)
      have ht : ∀ {a : Act}, Inv { B := w.heap.size, ios := bs, W := w, mu0 := mu } (ioGh fn.ntmps mu lam bs) ((enterSt fn args cs).put (some t) (.v (.lit x))) a w → a.eval (.tmp t) = x := fun {a} hi => by
        have h2 := hi.slots t
        have e : ((enterSt fn args cs).put (some t) (.v (.lit x))).sl t = .v (.lit x) := by
          simp only [St.put]
          rw [if_pos (show t < (enterSt fn args cs).n from hcond.2)]
          exact upd_same _ _ _
        rw [e] at h2
        exact (lit_val h2).1
      have h2 := h1.put (some t') (x := .v (.lit x)) (u := x) (rep_lit hx)
      refine callsD_of_wpS hpf hb fun c0 cs0 hmode => ?_
      refine wpS_seq (wpS_region ?_)
      have hn2 : ∀ {ρ : St}, ρ.n = (((enterSt fn args cs).put (some t) (.v (.lit x))).put (some t') (.v (.lit x))).n → ρ.n = fn.ntmps := fun {ρ} h => by
        rw [h]
        simp only [St.put]
        split <;> split <;> rfl
      have fin : ∀ c1 : Frame, c1 = { c0 with mode := u2 } → D.wpS P (bodyPostS P fn c0 cs0 fun e u' w' => u' = u2 ∧ ∃ mu', Left mu bs cs' w w' mu' ∧ EndRep res mu' e)
          (({ tmps := us.toArray ++ Array.replicate (fn.ntmps - us.toArray.size) undef, defers := [] } : Act).put (some t) x |>.put (some t') x) (c1 :: cs0) w := by
        intro c1 hc1
        refine wpS_of_wp ?_
        split at hc
        · rename_i ρ hev
          obtain ⟨r, hr, hc⟩ := Option.map_eq_some_iff.1 hc
          cases hc
          refine sound_code ok cok he.hgm D h2 hev fun G' a' w' _ hi => ⟨hi.defers, u2, by rw [hc1], tupV [], results_run (by rw [hres]; simp), rfl, G'.mu, left_of (fn := fn) he (hn2 (evalCode_n D hev)) hi hr, [], ⟨rfl, fun j y v hj => by simp at hj⟩, rfl⟩
        · rename_i ρ hev
          obtain ⟨r, hr, hc⟩ := Option.map_eq_some_iff.1 hc
          cases hc
          refine sound_code ok cok he.hgm D h2 hev fun G' a' w' _ hi => ⟨hi.defers, u2, by rw [hc1], tupV [], results_run (by rw [hres]; simp), rfl, G'.mu, left_of (fn := fn) he (hn2 (evalCode_n D hev)) hi hr, [], ⟨rfl, fun j y v hj => by simp at hj⟩, rfl⟩
        · cases hc
      have hrec : ∀ (ρ : Operand → Value), (execOp ρ ({ dst := some t, op := .call { callee := .builtin .recover, args := #[], argTypes := ts }, type := ty1, pos := p1, after := a1, guard := .none } : Oper)).run P w = .ok .recover w := fun ρ => by
        simp [execOp, resolve, invoke, builtin]
      have hget : (({ tmps := us.toArray ++ Array.replicate (fn.ntmps - us.toArray.size) undef, defers := [] } : Act).put (some t) x).eval (.tmp t) = x := ht h1
      have hasg : ∀ (a : Act), a.eval (.tmp t) = x → (execOp a.eval ({ dst := some t', op := .assign (.tmp t), type := ty2, pos := p2, after := a2, guard := .none } : Oper)).run P w = .ok (.value x) w := fun a ha => by
        simp [execOp, ha]
      show wpOpsS P _ _ [0, 1] _ _ _
      have w0 : ∀ (o : Oper) (ops : Array Oper) (tm : Array Value), o.guard = .none → Region.wanted o (yielded ops tm) = true := fun o ops tm hg => by
        simp [Region.wanted, hg]
      unfold wpOpsS
      simp only [List.getElem?_toArray, List.getElem?_cons_zero, w0, if_true, hrec]
      cases hu with
      | back =>
        have e : recoverD (c0 :: cs0) = none := by simp [recoverD, hmode]
        rw [e]
        simp only
        unfold wpOpsS
        simp only [List.getElem?_toArray, List.getElem?_cons_succ, List.getElem?_cons_zero, w0, if_true, hasg _ hget, Oper.upon_value]
        unfold wpOpsS
        exact fin c0 (by rw [← hmode])
      | pan x =>
        have e : recoverD (c0 :: cs0) = some (x, { c0 with mode := .panicking [{ v := x, recovered := true }] } :: cs0) := by simp [recoverD, hmode]
        rw [e]
        simp only
        unfold wpOpsS
        simp only [List.getElem?_toArray, List.getElem?_cons_succ, List.getElem?_cons_zero, w0, if_true, hasg _ hget, Oper.upon_value]
        unfold wpOpsS
        exact fin _ rfl
    · cases hc
  · cases hc

theorem deferShape_spec {fn : Func} {A C : Code} {id : Nat} {ops : Array Oper} {t : Tmp} {g : FuncId} {caps : Array Operand} (h : deferShape fn = some (A, id, ops, t, g, caps, C)) :
    fn.body = some (.seq A (.seq (.region id ops false) C)) ∧ t < fn.ntmps ∧ ∃ ty1 p1 a1 ts ty2 p2 a2, ops = #[{ dst := some t, op := .makeFunc (.func g) #[] caps, type := ty1, pos := p1, after := a1, guard := .none },
      { dst := .none, op := .defer { callee := .value (.tmp t), args := #[], argTypes := ts }, type := ty2, pos := p2, after := a2, guard := .none }] := by
  unfold deferShape at h
  split at h
  · rename_i A' id' ops' C' hb
    split at h
    · rename_i t1 g1 first caps1 ty1 p1 a1 t2 as2 ts ty2 p2 a2 hl
      split at h
      · rename_i hc
        simp only [Option.some.injEq, Prod.mk.injEq] at h
        obtain ⟨rfl, rfl, rfl, rfl, rfl, rfl, rfl⟩ := h
        obtain ⟨rfl, h2, h3, h4⟩ := hc
        have h2' : as2 = #[] := by simpa using h2
        have h3' : first = #[] := by simpa using h3
        subst h2' h3'
        refine ⟨hb, h4, ty1, p1, a1, ts, ty2, p2, a2, ?_⟩
        apply Array.ext'
        exact hl
      · cases h
    · cases h
  · cases h

theorem defer_ok (ok : LiteOk P L) (cok : CallOk P L call) {n : Nat} {f : FuncId} {fn : Func} (hf : L.fn.getD f .none = some fn) {args : List X} {cs cs' : List (List V)} {res : Res} (hrun : runDefer L fn call n args cs = some (res, cs'))
    (w : World) (mu lam : Mem) (bs : List Nat) (us : List Value) (he : Entry L.gm mu lam bs cs w) (hl : args.length = us.length)
    (hx : ∀ (j : Nat) (x : X) (u : Value), args[j]? = some x → us[j]? = some u → RepX (ioGh fn.ntmps mu lam bs) (ioOb fn.ntmps cs) x u) :
    Calls P f us.toArray w fun e w' => ∃ mu', Left mu bs cs' w w' mu' ∧ EndRep res mu' e := by
  obtain ⟨hpf, _, _⟩ := ok.fn f fn hf
  unfold runDefer at hrun
  split at hrun
  · cases hrun
  · rename_i A id ops t g caps C hs
    obtain ⟨hb, htn, ty1, p1, e1, ts, ty2, p2, e2, rfl⟩ := deferShape_spec hs
    split at hrun
    · rename_i hn
      have h0 := enter_inv (fn := fn) he hl hn hx
      refine calls_of_wp_defers hpf hb (wp_seq ?_)
      split at hrun
      · rename_i ρ1 hA
        refine sound_code ok cok he.hgm A h0 hA ?_
        intro G1 a1 w1 l1 i1
        refine wp_seq (wp_region ?_)
        show wpOps P _ _ [0, 1] _ _
        have w0 : ∀ (o : Oper) (ops : Array Oper) (tm : Array Value), o.guard = .none → Region.wanted o (yielded ops tm) = true := fun o ops tm hg => by
          simp [Region.wanted, hg]
        have hn1 : ρ1.n = fn.ntmps := evalCode_n A hA
        generalize hfv : Value.func (.func g) #[] (caps.toList.map a1.eval).toArray = fv
        have i2 : Inv { B := w.heap.size, ios := bs, W := w, mu0 := mu } G1 (ρ1.put (some t) (.clo g (caps.toList.map ρ1.opd))) (a1.put (some t) fv) w1 := by
          rw [← hfv]
          exact i1.put (some t) (.clo (by simp) (opds_rep i1 caps.toList))
        have ht : (a1.put (some t) fv).eval (.tmp t) = fv := by
          show (a1.put (some t) fv).tmps.getD t undef = fv
          rw [Act.getD_put]
          simp [i1.size, hn1, htn]
        generalize hd : ({ target := .fn (.func g) (caps.toList.map a1.eval).toArray, args := #[] } : Deferred) = d
        have hop0 : (execOp a1.eval ({ dst := some t, op := .makeFunc (.func g) #[] caps, type := ty1, pos := p1, after := e1, guard := .none } : Oper)).run P w1 = .ok (.value fv) w1 := by
          rw [← hfv]
          simp [execOp, Instr.makeFunc]
          apply Array.ext'; simp
        have hop1 : (execOp (a1.put (some t) fv).eval ({ dst := .none, op := .defer { callee := .value (.tmp t), args := #[], argTypes := ts }, type := ty2, pos := p2, after := e2, guard := .none } : Oper)).run P w1 = .ok (.defer d) w1 := by
          have gen : ∀ ro : Operand → Value, ro (.tmp t) = .func (.func g) #[] (caps.toList.map a1.eval).toArray → (execOp ro ({ dst := .none, op := .defer { callee := .value (.tmp t), args := #[], argTypes := ts }, type := ty2, pos := p2, after := e2, guard := .none } : Oper)).run P w1 = .ok (.defer { target := .fn (.func g) (caps.toList.map a1.eval).toArray, args := #[] }) w1 := fun ro hro => by
            simp [execOp, resolve, hro, Deferred.ofValue]
          rw [← hd]
          exact gen _ (by rw [ht, hfv])
        unfold wpOps
        simp only [List.getElem?_toArray, List.getElem?_cons_zero, w0, if_true]
        left
        unfold Oper.wp
        rw [hop0, Oper.upon_value]
        unfold wpOps
        simp only [List.getElem?_toArray, List.getElem?_cons_succ, List.getElem?_cons_zero, w0, if_true]
        left
        unfold Oper.wp
        rw [hop1, Oper.upon_defer]
        unfold wpOps
        have hdf : (a1.put (some t) fv).defers = [] := i2.defers
        generalize ha3 : ({ tmps := (a1.put (some t) fv).tmps, defers := [d] } : Act) = a3
        have e3 : ({ (a1.put (some t) fv) with defers := d :: (a1.put (some t) fv).defers } : Act).put .none undef = a3 := by
          rw [← ha3, hdf]; rfl
        show C.wp P _ (({ (a1.put (some t) fv) with defers := d :: (a1.put (some t) fv).defers } : Act).put .none undef) w1
        rw [e3]
        generalize hc3 : ({ B := w.heap.size, ios := bs, W := w, mu0 := mu, ds := [d], kp := fun x u => (x, u) ∈ (caps.toList.map ρ1.opd).zip (caps.toList.map a1.eval) } : Ctx) = c3
        have i3 : Inv c3 G1 (ρ1.put (some t) (.clo g (caps.toList.map ρ1.opd))) a3 w1 := by
          rw [← ha3, ← hc3]
          refine ⟨i2.size, i2.slots, i2.objs, i2.hmu, i2.hlam, i2.inj, i2.place, i2.sepl, i2.sepb, i2.sepr, i2.rown, i2.iom, i2.base, i2.cB, i2.mu0, i2.mu1, rfl, fun x u hxu => ?_, (fun k o hk => by cases hk), fun _ _ _ _ => rfl⟩
          have ho : (ρ1.put (some t) (.clo g (caps.toList.map ρ1.opd))).ob = ρ1.ob := by
            simp only [St.put]; split <;> rfl
          rw [ho]
          obtain ⟨j, hj⟩ := List.mem_iff_getElem?.1 hxu
          rw [List.getElem?_zip_eq_some] at hj
          exact opds_rep i1 caps.toList j x u hj.1 hj.2
        split at hrun
        · rename_i e ρ3 hC
          split at hrun
          · rename_i x hex
            split at hrun
            · rename_i y H rd wr hcl
              split at hrun
              · rename_i vs H2 rd2 wr2 hres
                obtain ⟨r, hout, hrun⟩ := Option.map_eq_some_iff.1 hrun
                cases hrun
                have hn3 : ρ3.n = fn.ntmps := by
                  rw [evalCode_n C hC]
                  simp only [St.put]; split <;> exact hn1
                have key : ∀ {u u2 : FrameMode}, ModeOf u x u2 → scal x = true → ∀ G4 a4 w4, Inv c3 G4 ρ3 a4 w4 → Leaves P fn a4.tmps (fun e w' => ∃ mu', Left mu bs cs' w w' mu' ∧ EndRep (.ret vs) mu' e) [d] u w4 := by
                  intro u u2 hm hsc G4 a4 w4 i4
                  have hrun' : u ≠ .run := by cases hm <;> exact fun h => by cases h
                  rw [← hd]
                  obtain ⟨⟨gn, hgn⟩, hcalls⟩ := sound_callR (Run := fun f xs w Q => CallsD P f xs u w fun e u' w' => u' = u2 ∧ Q e w') (fun _ _ _ _ _ hr hq => hr.mono fun e u' w' ⟨h1, h2⟩ => ⟨h1, hq _ _ h2⟩)
                    (rec_ok ok cok (n := n) hsc hm) (by rw [← hc3]; exact he.hgm) i4 (f := g) (xs := caps.toList.map ρ1.opd) (us := caps.toList.map a1.eval) (by simp) (fun j x u hj hu => by
                      refine i4.kept x u ?_
                      rw [← hc3]
                      exact List.mem_iff_getElem?.2 ⟨j, by rw [List.getElem?_zip_eq_some]; exact ⟨hj, hu⟩⟩) ⟨rd, wr, hcl⟩
                  obtain ⟨g1, g2, g3⟩ := ok.fn g gn hgn
                  have hnone : gn.body.isNone = false := by cases hb : gn.body <;> simp_all
                  refine leaves_cons hrun' (f := g) (args := (caps.toList.map a1.eval).toArray) ?_ ?_
                  · simp only [invoke, Array.empty_append, callFunc, Sem.run_bind, run_program, Result.andThen_ok, g1, g3, hnone, Bool.false_eq_true, if_false]
                    rfl
                  · refine hcalls.mono fun e u' w5 ⟨hu', G5, l5, i5, hoc⟩ => ?_
                    obtain ⟨uv, rfl, _⟩ := hoc
                    have hset : settle u' = .returning := by
                      rw [hu']; cases hm <;> rfl
                    simp only [hset]
                    obtain ⟨vs2, us2, G6, H6, l6, i6, la6, r6, q6, m6⟩ := sound_res (P := P) ok fn.results.toList i5 i5.slots ⟨rd2, wr2, hres⟩
                    obtain ⟨rfl, rfl⟩ := go_ret q6
                    refine ⟨tupV us2, results_run m6, G6.mu, ?_, us2, r6, rfl⟩
                    have i7 : Inv { B := w.heap.size, ios := bs, W := w, mu0 := mu } G6 { ρ3 with ob := H6 } { a4 with defers := [] } w5 := by
                      rw [← hc3] at i6
                      exact ⟨i6.size, i6.slots, i6.objs, i6.hmu, i6.hlam, i6.inj, i6.place, i6.sepl, i6.sepb, i6.sepr, i6.rown, i6.iom, i6.base, i6.cB, i6.mu0, i6.mu1, rfl, (fun x u hx => hx.elim), (fun k o hk => by cases hk), fun _ _ _ _ => rfl⟩
                    exact left_of (fn := fn) (ρ' := { ρ3 with ob := H6 }) he hn3 i7 hout
                refine sound_code ok cok (by rw [← hc3]; exact he.hgm) C i3 hC ?_
                have hds : ∀ {G4 a4 w4}, Inv c3 G4 ρ3 a4 w4 → a4.defers = [d] := fun i4 => by rw [i4.defers, ← hc3]
                cases e with
                | normal =>
                  cases hex
                  intro G4 a4 w4 _ i4
                  show Leaves P fn a4.tmps _ a4.defers .returning w4
                  rw [hds i4]
                  exact key .back rfl G4 a4 w4 i4
                | ret =>
                  cases hex
                  intro G4 a4 w4 _ i4
                  show Leaves P fn a4.tmps _ a4.defers .returning w4
                  rw [hds i4]
                  exact key .back rfl G4 a4 w4 i4
                | exit i => cases hex
                | pan v =>
                  unfold exV at hex
                  split at hex
                  · rename_i x' hv
                    cases hv
                    split at hex
                    · rename_i hsc
                      cases hex
                      intro u G4 a4 w4 _ i4 hr
                      cases hr
                      show Leaves P fn a4.tmps _ a4.defers (.panicking _) w4
                      rw [hds i4]
                      exact key (.pan _) hsc G4 a4 w4 i4
                    · cases hex
                  · cases hex
                  · rename_i h; cases h
                  · rename_i h; cases h
                  · rename_i h; cases h
              · cases hrun
            · cases hrun
          · cases hrun
        · cases hrun
      · cases hrun
    · cases hrun
end
end Go.Dv

namespace Go.Dv
open Go

/-- The functions of a list are run so. -/
def deferExt (L : Lite) (D : List FuncId) : Ext := fun f => if D.contains f then (L.fn.getD f .none).map fun fn => runDefer L fn else .none

theorem deferExt_ok {P : Program} {L : Lite} (ok : LiteOk P L) (D : List FuncId) : ExtOk P L (deferExt L D) := by
  intro call cok n f fn args cs res cs' hf hc w mu lam bs us he hl hx
  simp only at hc
  split at hc
  · rename_i e hext
    unfold deferExt at hext
    split at hext
    · rw [hf] at hext
      cases hext
      exact defer_ok ok cok hf hc w mu lam bs us he hl hx
    · cases hext
  · cases hc

theorem callRec_le {L : Lite} {c c' : Call1} (hc : CallLe c c') {n n' : Nat} (hn : n ≤ n') (v : Value) : CallLe (callRec L c n v) (callRec L c' n' v) := by
  intro f xs cs r h
  unfold callRec at h ⊢
  split at h
  · cases h
  · rename_i gn hg
    split at h
    · rename_i id t t' ops D hs
      split at h
      · rename_i hcond
        simp only [if_pos hcond]
        split at h
        · rename_i ρ he
          rw [evalCode_le hc hn D he]; exact h
        · rename_i ρ he
          rw [evalCode_le hc hn D he]; exact h
        · cases h
      · cases h
    · cases h

theorem runDefer_le {L : Lite} {fn : Func} {c c' : Call1} (hc : CallLe c c') {n n' : Nat} (hn : n ≤ n') {xs : List X} {cs : List (List V)} {r : Res × List (List V)} (h : runDefer L fn c n xs cs = some r) : runDefer L fn c' n' xs cs = some r := by
  unfold runDefer at h ⊢
  split at h
  · cases h
  · rename_i A id ops t g caps C hs
    split at h
    · rename_i hle
      simp only [if_pos hle]
      split at h
      · rename_i ρ1 hA
        rw [evalCode_le hc hn A hA]
        simp only
        split at h
        · rename_i e ρ3 hC
          rw [evalCode_le hc hn C hC]
          simp only
          split at h
          · rename_i v hv
            split at h
            · rename_i y H rd wr hcl
              rw [callF_le (callRec_le hc hn v) _ _ _ _ hcl]
              exact h
            · cases h
          · cases h
        · cases h
      · cases h
    · cases h

theorem deferExt_le (L : Lite) (D : List FuncId) : ExtLe (deferExt L D) := by
  intro f e he c c' n n' hc hn xs cs r h
  unfold deferExt at he
  split at he
  · obtain ⟨fn, _, rfl⟩ := Option.map_eq_some_iff.1 he
    exact runDefer_le hc hn h
  · cases he

end Go.Dv

namespace Go.Dv
open Go

/-- Fields of one cell each, one behind the other, of these kinds. -/
def flatB (P : Program) : Nat → List Field → List Nat → Bool
  | _, [], [] => true
  | off, f :: fs, k :: ks => (f.name != "_" && f.offset == off && (match P.underlying f.type with | some (.int _) => k == 1 | some .bool => k == 2 | some .string => k == 3 | _ => false)) && flatB P (off + 1) fs ks
  | _, _, _ => false

section
variable {P : Program}

theorem litK_1 {x : V} (h : litK x = 1) : ∃ k n, x = .lit (.int k n) := by
  unfold litK at h
  split at h <;> first | (cases h; done) | skip
  exact ⟨_, _, rfl⟩
theorem litK_2 {x : V} (h : litK x = 2) : ∃ b, x = .lit (.bool b) := by
  unfold litK at h
  split at h <;> first | (cases h; done) | skip
  exact ⟨_, rfl⟩
theorem litK_3 {x : V} (h : litK x = 3) : ∃ s, x = .lit (.string s) := by
  unfold litK at h
  split at h <;> first | (cases h; done) | skip
  exact ⟨_, rfl⟩

theorem eqFields_flat (d : Nat) (xs ys : Array Value) (w : World) : ∀ (fs : List Field) (off : Nat) (as bs : List V) (b : Bool), flatB P off fs (as.map litK) = true → eqCells as bs = some b → bs.map litK = as.map litK →
    (∀ (j : Nat) (x : V), as[j]? = some x → ∃ u, xs[off + j]? = some u ∧ x = .lit u) → (∀ (j : Nat) (x : V), bs[j]? = some x → ∃ u, ys[off + j]? = some u ∧ x = .lit u) →
    (Op.eqFields (d + 1) xs ys fs).run P w = .ok b w
  | [], off, [], [], b, _, h, _, _, _ => by
    simp [eqCells] at h; subst h; simp [Op.eqFields]
  | [], off, [], _ :: _, b, _, h, _, _, _ => by simp [eqCells] at h
  | [], off, _ :: _, _, b, h, _, _, _, _ => by simp [flatB] at h
  | _ :: _, off, [], _, b, h, _, _, _, _ => by simp [flatB] at h
  | _ :: _, off, _ :: _, [], b, _, h, _, _, _ => by simp [eqCells] at h
  | f :: fs, off, x :: as, y :: bs, b, hfl, h, hk, hx, hy => by
    simp only [List.map_cons, flatB, Bool.and_eq_true] at hfl
    obtain ⟨⟨⟨hname, hoff⟩, hkind⟩, hrest⟩ := hfl
    have hname : f.name ≠ "_" := by simpa using hname
    have hoff : f.offset = off := by simpa using hoff
    simp only [List.map_cons, List.cons.injEq] at hk
    unfold eqCells at h
    split at h
    · rename_i p q hp hq
      simp only [Option.some.injEq] at h
      obtain ⟨u, hu1, rfl⟩ := hx 0 _ rfl
      obtain ⟨v, hv1, rfl⟩ := hy 0 _ rfl
      rw [Nat.add_zero, ← hoff] at hu1 hv1
      have ih := eqFields_flat d xs ys w fs (off + 1) as bs q hrest hq hk.2 (fun j x hj => by have := hx (j + 1) x hj; rwa [show off + (j + 1) = off + 1 + j by omega] at this) (fun j x hj => by have := hy (j + 1) x hj; rwa [show off + (j + 1) = off + 1 + j by omega] at this)
      have go : (isAgg f.type).run P w = .ok false w → (Op.equalIn (d + 1) f.type u v).run P w = .ok p w → (Op.eqFields (d + 1) xs ys (f :: fs)).run P w = .ok b w := by
        intro hag he
        have hpart : ∀ (zs : Array Value) (z : Value), zs[f.offset]? = some z → (part f.type zs f.offset).run P w = .ok z w := by
          intro zs z hz
          simp [part, hag, hz]
        simp only [Op.eqFields, if_pos hname, Sem.run_bind, hpart _ _ hu1, hpart _ _ hv1, Result.andThen_ok, he]
        cases p
        · subst h; simp
        · simp only [Bool.not_true, Bool.false_eq_true, if_false]
          rw [ih, ← h]; rfl
      split at hkind
      · rename_i k hu
        obtain ⟨k1, n1, e1⟩ := litK_1 (by simpa using hkind)
        obtain ⟨k2, n2, e2⟩ := litK_1 (hk.1.trans (by simpa using hkind))
        cases e1; cases e2
        simp only [eqCell] at hp
        split at hp
        · rename_i hkk
          subst hkk
          cases hp
          exact go (by simp [isAgg, run_underlying hu]) (run_equalIn_int w d f.type k1 k n1 n2 hu)
        · cases hp
      · rename_i hu
        obtain ⟨b1, e1⟩ := litK_2 (by simpa using hkind)
        obtain ⟨b2, e2⟩ := litK_2 (hk.1.trans (by simpa using hkind))
        cases e1; cases e2
        cases hp
        exact go (by simp [isAgg, run_underlying hu]) (run_equalIn_bool' w d f.type b1 b2 hu)
      · rename_i hu
        obtain ⟨s1, e1⟩ := litK_3 (by simpa using hkind)
        obtain ⟨s2, e2⟩ := litK_3 (hk.1.trans (by simpa using hkind))
        cases e1; cases e2
        simp only [eqCell, Option.some.injEq] at hp
        subst hp
        refine go (by simp [isAgg, run_underlying hu]) ?_
        rw [beq_toListBytes]
        exact run_equalIn_string w d f.type s1 s2 hu
      · cases hkind
    · cases h

theorem equal_flat {t : TypeId} {ks : List Nat} (ht : P.underlying t = some (.struct (P.fieldsOf t))) (hp : P.stoodInHeld t = false) (hf : flatB P 0 (P.fieldsOf t).toList ks = true)
    (xs ys : List V) (us vs : List Value) (b : Bool) (w : World) (h : eqCells xs ys = some b) (h1 : xs.map litK = ks) (h2 : ys.map litK = ks) (l1 : us.length = xs.length) (l2 : vs.length = ys.length)
    (r1 : ∀ (i : Nat) (x : V) (u : Value), xs[i]? = some x → us[i]? = some u → x = .lit u) (r2 : ∀ (i : Nat) (x : V) (u : Value), ys[i]? = some x → vs[i]? = some u → x = .lit u) :
    (Op.equal t (.agg us.toArray) (.agg vs.toArray)).run P w = .ok b w := by
  show (Op.equalIn (9998 + 1 + 1) t _ _).run P w = _
  rw [run_equalIn_struct w _ t us.toArray vs.toArray ht hp]
  subst h1
  refine eqFields_flat _ _ _ w _ 0 xs ys b hf h h2 ?_ ?_
  · intro j x hj
    have hjl := (List.getElem?_eq_some_iff.1 hj).1
    have hu' : us[j]? = some (us[j]'(by omega)) := List.getElem?_eq_getElem (by omega)
    exact ⟨us[j]'(by omega), by simp [hu'], r1 j x _ hj hu'⟩
  · intro j x hj
    have hjl := (List.getElem?_eq_some_iff.1 hj).1
    have hu' : vs[j]? = some (vs[j]'(by omega)) := List.getElem?_eq_getElem (by omega)
    exact ⟨vs[j]'(by omega), by simp [hu'], r2 j x _ hj hu'⟩
end
end Go.Dv

namespace Go.Dv
open Go

def byteV (b : Nat) : V := .lit (.int .u8 (b : Int))
def boolV (p : Bool) : V := .lit (.bool p)
def natV (n : Nat) : V := .lit (.int .i64 (n : Int))
def natX (k : IntKind) (n : Nat) : X := .v (.lit (.int k (n : Int)))
def strV (s : ByteArray) : V := .lit (.string s)
def rowI (l : List Nat) : List (List V) := l.map fun n => [natV n]
theorem rowI_len (l : List Nat) : (rowI l).length = l.length := by simp [rowI]
theorem rowI_get {l : List Nat} {i : Nat} (h : i < l.length) : (rowI l)[i]? = some [natV (l.getD i 0)] := by
  simp [rowI, List.getD_eq_getElem?_getD, List.getElem?_eq_getElem h]
theorem rowI_set (l : List Nat) (i x : Nat) : (rowI l).set i [natV x] = rowI (l.set i x) := by simp [rowI, List.map_set]
def byteAt (s : ByteArray) (i : Nat) : UInt8 := s[i]?.getD 0
theorem byteAt_get {s : ByteArray} {i : Nat} (h : i < s.size) : s[i]? = some (byteAt s i) := by
  unfold byteAt; rw [getElem?_pos s i h]; rfl
theorem byteAt_lt (s : ByteArray) (i : Nat) : (byteAt s i).toNat < 256 := UInt8.toNat_lt _
theorem eqlB {p q : Bool} (h : p = q) : boolOp .eql p q = some (.bool true) := by subst h; cases p <;> rfl

section
variable {L : Lite} {ext : Ext} {n0 : Nat} {sl : Nat → X} {ob : Nat → Ob} {d : Option Tmp} {ty : TypeId} {pos : String} {af : Array Edge} {gd : Option (Nat × Bool)}
theorem a_storeR {t : TypeId} {T : TI} {x y : Operand} {s g i z : Nat} {l : List Nat} {v : Nat} (he : i < l.length) (hx : (St.opd ⟨n0, sl, ob⟩) x = .elt s g i 0) (hy : (St.opd ⟨n0, sl, ob⟩) y = .v (natV v)) (ho : ob s = .row g true z (rowI l)) (ht : L.ti t = T) (hk : T.kd = 1)
    (hl : T.size = 1) : ActEv L ext ⟨d, .store t x y, ty, pos, af, gd⟩ ⟨n0, sl, ob⟩ .undef (upd ob s (.row g true z (rowI (l.set i v)))) [s] [s] := by
  have := a_storeE1 (L := L) (ext := ext) (d := d) (ty := ty) (pos := pos) (af := af) (gd := gd) hx hy rfl ho (rowI_get he) ht hk hl Nat.zero_lt_one
  have e : (rowI l).set i ([natV (l.getD i 0)].set 0 (natV v)) = rowI (l.set i v) := rowI_set l i v
  rw [e] at this
  exact this
theorem a_loadI {t : TypeId} {T : TI} {x : Operand} {s g i z : Nat} {mt : Bool} {l : List Nat} (he : i < l.length) (hx : (St.opd ⟨n0, sl, ob⟩) x = .elt s g i 0) (ho : ob s = .row g mt z (rowI l)) (ht : L.ti t = T) (hk : T.kd = 1) :
    ActEv L ext ⟨d, .load t x, ty, pos, af, gd⟩ ⟨n0, sl, ob⟩ (.v (natV (l.getD i 0))) ob [s] [] :=
  a_loadE1 hx ho (rowI_get he) ht hk rfl
theorem n_indexAddrP {t e : TypeId} {T E : TI} {x y : Operand} {k : IntKind} {a : Nat} {s g m z : Nat} {mt : Bool} {es : List (List V)} (hx : (St.opd ⟨n0, sl, ob⟩) x = .own s g 0 m) (hi : (St.opd ⟨n0, sl, ob⟩) y = .v (.lit (.int k (a : Int)))) (ho : ob s = .row g mt z es) (ht : L.ti t = T) (hu : T.und = .slice e) (he : L.ti e = E) (hz : z = E.size) (h1 : a < m) :
    ActEv L ext ⟨d, .indexAddr t x y, ty, pos, af, gd⟩ ⟨n0, sl, ob⟩ (.elt s g a 0) ob [s] [] := by
  have := n_indexAddrO (L := L) (ext := ext) (d := d) (ty := ty) (pos := pos) (af := af) (gd := gd) hx hi ho ht hu he hz h1
  rw [Nat.zero_add] at this
  exact this
theorem n_indexAddrB {t e : TypeId} {T E : TI} {x y : Operand} {k : IntKind} {a : Nat} {s g m : Nat} (hx : (St.opd ⟨n0, sl, ob⟩) x = .bsl s g m) (hi : (St.opd ⟨n0, sl, ob⟩) y = .v (.lit (.int k (a : Int)))) (ht : L.ti t = T) (hu : T.und = .slice e) (he : L.ti e = E) (hz : E.size = 1) (h1 : a < m) :
    ActEv L ext ⟨d, .indexAddr t x y, ty, pos, af, gd⟩ ⟨n0, sl, ob⟩ (.addr s g a) ob [] [] := by
  have := a_indexAddrB (L := L) (ext := ext) (d := d) (ty := ty) (pos := pos) (af := af) (gd := gd) hx hi ht hu he hz (Int.natCast_nonneg a) (by exact_mod_cast h1)
  rwa [Int.toNat_natCast] at this
/-- A byte of a string. -/
theorem n_byteAt {t : TypeId} {T : TI} {x y : Operand} {k : IntKind} {a : Nat} {sb : ByteArray} (h : a < sb.size) (hx : (St.opd ⟨n0, sl, ob⟩) x = .v (.lit (.string sb))) (hi : (St.opd ⟨n0, sl, ob⟩) y = .v (.lit (.int k (a : Int)))) (ht : L.ti t = T) (hu : T.und = .string) :
    ActEv L ext ⟨d, .index t x y, ty, pos, af, gd⟩ ⟨n0, sl, ob⟩ (.v (byteV (byteAt sb a).toNat)) ob [] [] :=
  n_indexStr hx hi ht hu (byteAt_get h)

theorem n_min2 {x y : Operand} {ts : Array TypeId} {a b : Nat} (hx : (St.opd ⟨n0, sl, ob⟩) x = .v (natV a)) (hy : (St.opd ⟨n0, sl, ob⟩) y = .v (natV b)) :
    ActEv L ext ⟨d, .call { callee := .builtin .min, args := #[x, y], argTypes := ts }, ty, pos, af, gd⟩ ⟨n0, sl, ob⟩ (.v (natV (min a b))) ob [] [] :=
  ⟨0, fun k _ => by
    simp only [act, List.map_cons, List.map_nil, hx, hy, actBuiltin, actMM, intsOf, natV, foldMM, Ef.run, Bool.false_eq_true, if_false, if_true]
    have : (if (b : Int) < (a : Int) then (b : Int) else a) = ((min a b : Nat) : Int) := by split <;> omega
    rw [this]⟩
theorem n_max2 {x y : Operand} {ts : Array TypeId} {a b : Nat} (hx : (St.opd ⟨n0, sl, ob⟩) x = .v (natV a)) (hy : (St.opd ⟨n0, sl, ob⟩) y = .v (natV b)) :
    ActEv L ext ⟨d, .call { callee := .builtin .max, args := #[x, y], argTypes := ts }, ty, pos, af, gd⟩ ⟨n0, sl, ob⟩ (.v (natV (max a b))) ob [] [] :=
  ⟨0, fun k _ => by
    simp only [act, List.map_cons, List.map_nil, hx, hy, actBuiltin, actMM, intsOf, natV, foldMM, Ef.run, Bool.false_eq_true, if_false, if_true]
    have : (if (b : Int) > (a : Int) then (b : Int) else a) = ((max a b : Nat) : Int) := by split <;> omega
    rw [this]⟩
theorem s_slice {t : TypeId} {T : TI} {x : Operand} {lo hi : Option Operand} {sb : ByteArray} {l h : Nat} (hx : (St.opd ⟨n0, sl, ob⟩) x = .v (.lit (.string sb))) (ht : L.ti t = T) (hu : T.und = .string)
    (hlo : match lo with | .none => l = 0 | some y => ∃ k, (St.opd ⟨n0, sl, ob⟩) y = .v (.lit (.int k (l : Int)))) (hhi : match hi with | .none => h = sb.size | some y => ∃ k, (St.opd ⟨n0, sl, ob⟩) y = .v (.lit (.int k (h : Int)))) (h1 : l ≤ h) (h2 : h ≤ sb.size) :
    ActEv L ext ⟨d, .slice t x lo hi .none, ty, pos, af, gd⟩ ⟨n0, sl, ob⟩ (.v (strV (sb.extract l h))) ob [] [] :=
  ⟨0, fun k _ => by
    have h1' : (l : Int) ≤ (h : Int) := by omega
    have h2' : (h : Int) ≤ (sb.size : Int) := by omega
    cases lo with
    | none =>
      subst hlo
      cases hi with
      | none =>
        subst hhi
        simp [act, actSlice, ht, hu, hx, bounds, Ef.run, strV]
      | some z =>
        obtain ⟨k2, hz⟩ := hhi
        simp [act, actSlice, ht, hu, hx, hz, bounds, num, Ef.run, strV, h2']
    | some y =>
      obtain ⟨k1, hy⟩ := hlo
      cases hi with
      | none =>
        subst hhi
        simp [act, actSlice, ht, hu, hx, hy, bounds, num, Ef.run, strV, h1']
      | some z =>
        obtain ⟨k2, hz⟩ := hhi
        simp [act, actSlice, ht, hu, hx, hy, hz, bounds, num, Ef.run, strV, h1', h2']⟩
theorem s_add {t yt : TypeId} {x y : Operand} {a b : ByteArray} (hx : (St.opd ⟨n0, sl, ob⟩) x = .v (strV a)) (hy : (St.opd ⟨n0, sl, ob⟩) y = .v (strV b)) (h : a.size + b.size ≤ 9223372036854775807) :
    ActEv L ext ⟨d, .binOp .add t x y yt, ty, pos, af, gd⟩ ⟨n0, sl, ob⟩ (.v (strV (a ++ b))) ob [] [] :=
  a_bin hx hy (by simp only [litBin, strOp]; rw [if_pos h])
theorem s_eql {t yt : TypeId} {x y : Operand} {a b : ByteArray} {p : Bool} (h : (a.toList == b.toList) = p) (hx : (St.opd ⟨n0, sl, ob⟩) x = .v (strV a)) (hy : (St.opd ⟨n0, sl, ob⟩) y = .v (strV b)) :
    ActEv L ext ⟨d, .binOp .eql t x y yt, ty, pos, af, gd⟩ ⟨n0, sl, ob⟩ (.v (boolV p)) ob [] [] :=
  a_bin hx hy (by simp only [litBin, strOp, h])
theorem n_min3 {x y z : Operand} {ts : Array TypeId} {a b c : Nat} (hx : (St.opd ⟨n0, sl, ob⟩) x = .v (natV a)) (hy : (St.opd ⟨n0, sl, ob⟩) y = .v (natV b)) (hz : (St.opd ⟨n0, sl, ob⟩) z = .v (natV c)) :
    ActEv L ext ⟨d, .call { callee := .builtin .min, args := #[x, y, z], argTypes := ts }, ty, pos, af, gd⟩ ⟨n0, sl, ob⟩ (.v (natV (min (min a b) c))) ob [] [] :=
  ⟨0, fun k _ => by
    simp only [act, List.map_cons, List.map_nil, hx, hy, hz, actBuiltin, actMM, intsOf, natV, foldMM, Ef.run, Bool.false_eq_true, if_false, if_true]
    have : (if (c : Int) < (if (b : Int) < (a : Int) then (b : Int) else a) then (c : Int) else (if (b : Int) < (a : Int) then (b : Int) else a)) = ((min (min a b) c : Nat) : Int) := by split <;> split <;> omega
    rw [this]⟩
/-- A point between two codes at which it is said what holds. -/
theorem wC_cut {a b : Code} {ρ : St} {QC : Ex → St → Prop} (I : St → Prop) (h1 : wpC L ext a ρ (fun e ρ' => e = .normal ∧ I ρ')) (h2 : ∀ ρ', I ρ' → wpC L ext b ρ' QC) : wpC L ext (.seq a b) ρ QC :=
  wC_seq (wpC_mono h1 fun e ρ' ⟨he, hi⟩ => by subst he; exact h2 ρ' hi)
end
end Go.Dv
